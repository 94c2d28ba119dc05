import Derived.Test.YtakfhadmokoikaaGreatDoorKA39
set_option maxHeartbeats 0
set_option linter.all false
set_option maxRecDepth 100000
namespace Go.Proofs.YtakfhadmokoikaaGreatDoor
open Go.RowKit
variable {D g:List Int} {L:List Wr} {N X:Pn} {T:List Nat} {e:En} {f:Fo} {i j k kd n:Nat} {l:List En} {o:Ow} {ow:Int->Option (Nat×Nat)} {pf:Nat->Nat->Int} {put:List (Int×List Int)} {sq:Int} {x:Tx}
@[ext] structure AN where
 k:Int
 m:Int
 u:Int
 g:Int
 s:Int
 l:Int
 up:Int
 D:List Int
def zAN : AN:=⟨0,0,0,0,0,0,0,[]⟩
def vw (x:Tx) (s:Fs) (i:Nat):AN:=⟨(x.nodes.getD i zN).k,(x.nodes.getD i zN).m,(x.nodes.getD i zN).u,(x.nodes.getD i zN).g,(x.nodes.getD i zN).s,(x.nodes.getD i zN).l,(x.nodes.getD i zN).up,x.dirD s i⟩
def upA (A:Nat->AN) (i:Nat) (a:AN):Nat->AN:=fun j=>if j=i then a else A j
def TZ (x:Tx) (s:Fs):Prop:=∀i,i<32->∀b r:Nat,r<64->(x.nodes.getD i zN).s<=((64*b+r:Nat):Int)->(blk x s i b)[r]?=some 0
structure TV (x:Tx) (s:Fs) (n:Nat) (T:List Nat) (A:Nat->AN):Prop where
 ti:TI x s T
 cap:Cap x n
 v:∀j,j<32->vw x s j=A j
 z:TZ x s
section
variable {x : Tx} {s : Fs} {n i : Nat} {A : Nat->AN} {T : List Nat}
theorem TV.at (h:TV x s n T A) (a:i<32):(x.nodes.getD i zN).k=(A i).k/\(x.nodes.getD i zN).m=(A i).m/\(x.nodes.getD i zN).u=(A i).u/\(x.nodes.getD i zN).g=(A i).g/\(x.nodes.getD i zN).s=(A i).s/\(x.nodes.getD i zN).l=(A i).l/\(x.nodes.getD i zN).up=(A i).up/\x.dirD s i=(A i).D:=by have:=h.v i a;rw[<-this];exact⟨rfl,rfl,rfl,rfl,rfl,rfl,rfl,rfl⟩
theorem TV.ne (h:TV x s n T A) (b:i<32) (c:(A i).k≠0):x.nodes.getD i zN≠zN:=fun a=>c (by rw[<-(h.at b).1,a];rfl)
theorem TV.mono (h:TV x s n T A) {m:Nat} (a:n<=m):TV x s m T A:=⟨h.ti,⟨⟨h.cap.fk.1,by have:=h.cap.fk.2;omega⟩,zr h.cap.g a,zr h.cap.p a,zr h.cap.d a⟩,h.v,h.z⟩
theorem TV.fill (h:TV x s n T A) (u:i<32) (w:i∈T) (y:(A i).k≠0) (B:D.length<=512/\ue D):TV (x.fillX s.k i (x.nodes.getD i zN) D) s (n+8) T (upA A i {A i with s:=(D.length:Int),D:=D}):=by
 obtain⟨q,m,l,p,P,t,_⟩:=h.ti.fill u w D B (h.ne u y) n h.cap;have c:∀j,((x.fillX s.k i (x.nodes.getD i zN) D).nodes).getD j zN=if j=i then {x.nodes.getD i zN with P:=P,s:=(D.length:Int)} else x.nodes.getD j zN:=fun j=>by rw[t,rp,h.ti.len];grind
 refine⟨q,p,fun j d=>?_,fun j d b r g e=>?_⟩
 .unfold upA;by_cases a:j=i
  .subst a;rw[ze rfl,<-h.v j u];unfold vw;rw[m,c,ze rfl]
  .rw[zb a,<-h.v j d];unfold vw;rw[WH d (by rw[c,zb a]) (by rw[c,zb a]) fun b=>(l j d b).trans (zb a),c,zb a]
 .rw[l j d];rw[c]at e;split
  .rename_i a;rw[ze a]at e;split
   .unfold blkB over;have o:(D.length:Int)<=((64*b+r:Nat):Int):=e;have f:((D.drop (64*b)).take 64).length<=r:=(by rw[zi,yx];omega);rw[xE,xj,zx f,yo,yY,ze (by omega)]
   .rw[yY,ze g]
  .rename_i a;rw[zb a]at e;exact h.z j d b r g e
theorem Uz (a:x.nodes.length=32) (c:N.P=(x.nodes.getD i zN).P):(x.setX i N).pf=x.pf:=by
 funext i' b
 unfold Tx.pf Tx.setX;simp only[rp,a]
 grind
theorem TV.set (h:TV x s n T A) (J:i<32) (H:N.P=(x.nodes.getD i zN).P) (I:N.s=(x.nodes.getD i zN).s) (K:mj N):TV (x.setX i N) s (n+8) T (upA A i ⟨N.k,N.m,N.u,N.g,N.s,N.l,N.up,(A i).D⟩):=by
 have w:=h.ti.len;have e:=Uz w H;have c:∀j,(x.setX i N).nodes.getD j zN=if j=i then N else x.nodes.getD j zN:=fun j=>by unfold Tx.setX;simp only[rp,w];grind
 obtain⟨F,q⟩:=h.ti.ex;have f:=h.cap;have G:=oS ((i:Int)+1) (.bool true:Value) x.dirty;refine⟨⟨⟨F,by rw[e];exact q⟩,by rw[e];exact h.ti.pp,by show (x.nodes.set i N).length=32;rw[xG,w],h.ti.fine,fun j q=>?_,fun y B=>?_,h.ti.np⟩,⟨⟨f.fk.1,by have:=f.fk.2;show x.fake<=_;omega⟩,zr f.g (by omega),zr f.p (by omega),(by have:=f.d;show 8*(putZ x.dirty _ _).length<=_;omega)⟩,fun j q=>?_,fun j q b r C o=>?_⟩
 .rw[c];split
  .exact K
  .exact h.ti.nd j q
 .rcases ms B with rfl|B
  .rfl
  .exact h.ti.dv y B
 .have t:(x.setX i N).dirD s j=x.dirD s j:=by
   refine WH q ?_ ?_ fun b=>?_
   .rw[c];split
    .rename_i f;rw[H,f]
    .rfl
   .rw[c];split
    .rename_i f;rw[I,f]
    .rfl
   .unfold blk;rw[e];rfl
  unfold upA vw;rw[c,t];by_cases a:j=i
  .subst a;rw[ze rfl,ze rfl,(h.at J).2.2.2.2.2.2.2]
  .rw[zb a,zb a,<-h.v j q];rfl
 .have E:blk (x.setX i N) s j b=blk x s j b:=by unfold blk;rw[e];rfl
  rw[E];refine h.z j q b r C ?_;rw[c]at o;split at o
  .rename_i a;rw[a,<-I];exact o
  .exact o
theorem TV.free (h:TV x s n T A) (S:i<32) (U:(A i).l=0) (V:s.held=[]):TV (x.freeX s i (x.nodes.getD i zN)) s (n+8) T (upA A i zAN):=by
 have J:=h.ti.len;have B:=h.cap;have Q:=fld8 (h.ti.nd i S);have M:x.freeX s i (x.nodes.getD i zN)={x with gone:=x.gone++nzF (x.nodes.getD i zN).P,nodes:=x.nodes.set i zN,dirty:=putZ x.dirty ((i:Int)+1) (.bool true)}:=by unfold Tx.freeX;rw[zb];rw[V,(h.at S).2.2.2.2.2.1,U];simp[getZ]
 rw[M];have c:∀j,(x.nodes.set i zN).getD j zN=if j=i then zN else x.nodes.getD j zN:=fun j=>by simp only[rp,J];grind
 obtain⟨R,k⟩:=h.ti.ex;have I:∀b,x.pf i b=(x.nodes.getD i zN).P.getD b 0:=fun b=>ze S;obtain⟨G,u⟩:=k.give (i:=i) (m:=0) S (nzF (x.nodes.getD i zN).P) (fun b _ e=>by
  rw[I]at e ⊢;unfold nzF;rw[vt];refine⟨?_,by simpa using e⟩;generalize (x.nodes.getD i zN).P=P at e ⊢;rw[zh]at e ⊢;cases H:P[b]? with
  | none=>rw[H]at e;exact yb rfl e
  | some p=>exact xK H) (fun p o _=>by
  unfold nzF at o;obtain⟨b,L⟩:=va.1 (vt.1 o).1;exact⟨b,ye _,by rw[I,zh,L];rfl⟩)
 have f:({x with gone:=x.gone++nzF (x.nodes.getD i zN).P,nodes:=x.nodes.set i zN,dirty:=putZ x.dirty ((i:Int)+1) (.bool true)}:Tx).pf=fun w C=>if w=i/\0<=C then 0 else x.pf w C:=by
  funext w C
  unfold Tx.pf;simp only[c];have:zN.P.getD C 0=0:=rfl
  grind
 rw[<-f]at u;have N:=oS ((i:Int)+1) (.bool true:Value) x.dirty;refine⟨⟨⟨G,u⟩,fun w b E D=>?_,by show (x.nodes.set i zN).length=32;rw[xG,J],h.ti.fine,fun j k=>?_,fun y F=>?_,h.ti.np⟩,⟨⟨B.fk.1,by have:=B.fk.2;show x.fake<=_;omega⟩,?_,zr B.p (by omega),(by have:=B.d;show 8*(putZ x.dirty _ _).length<=_;omega)⟩,fun j k=>?_,fun j k b r K q=>?_⟩
 .rw[f]at D ⊢;have:=h.ti.pp w b E
  grind
 .show mj ((x.nodes.set i zN).getD j zN);rw[c];split
  .exact zt rfl
  .exact h.ti.nd j k
 .rcases ms F with rfl|F
  .rfl
  .exact h.ti.dv y F
 .have O:=B.g;show (x.gone++nzF _).length<=_;rw[zl];have:(nzF (x.nodes.getD i zN).P).length<=_:=vd _ _;omega
 .unfold upA;by_cases a:j=i
  .subst a;rw[ze rfl];unfold vw Tx.dirD;simp only[c,vl];rfl
  .rw[zb a,<-h.v j k];have t:({x with gone:=x.gone++nzF (x.nodes.getD i zN).P,nodes:=x.nodes.set i zN,dirty:=putZ x.dirty ((i:Int)+1) (.bool true)}:Tx).dirD s j=x.dirD s j:=by
    refine WH k ?_ ?_ fun b=>?_
    .simp only[c,a,ua]
    .simp only[c,a,ua]
    .unfold blk;rw[f];simp only[a,false_and,ua];rfl
   unfold vw;rw[t];simp only[c,a,ua]
 .unfold blk;rw[f];simp only;by_cases a:j=i
  .rw[ze ⟨a,ye _⟩];unfold tE;rw[ze rfl,yY,ze K]
  .rw[zb (by omega)];refine h.z j k b r K ?_;simp only[c,a,ua]at q;exact q
end
theorem Ke {α:Type} (y:Int×α) (r:List (Int×α)) (k:Int):getZ (y::r) k=if y.1=k then some y.2 else getZ r k:=rfl
theorem Xc {α:Type} (k p:Int):∀l:List (Int×α),getZ (delZ l k) p=if p=k then none else getZ l p
 | []=>by unfold delZ;simp[getZ]
 | y::l=>by have a:=Xc k p l;unfold delZ at a ⊢;rw[vy,Ke];split<;>(try rw[Ke])<;>grind
theorem Zr (p:Int):∀(g:List Int) (put:List (Int×List Int)),getZ (gonP put g) p=if p∈g then none else getZ put p
 | [],_=>by simp[gonP]
 | q::g,put=>by
  have a:=Zr p g (delZ put q);unfold gonP at a ⊢;rw[wS,a,Xc]
  grind
theorem LI {y:Int×List Int}:y∈gonP put g->y∈put:=by
 induction g generalizing put with
 | nil=>exact id
 | cons q g a=>exact fun h=>Xs (a (put:=delZ put q) h)
theorem X4:se put->se (gonP put g):=by
 induction g generalizing put with
 | nil=>exact id
 | cons q g a=>exact fun h=>a (put:=delZ put q) (Wi q h)
theorem Rp (g:List Int) (S:Nat->Bool) (n:Nat):gonS S g n=true↔S n=true/\∀p∈g,p.toNat≠n:=by
 induction g generalizing S with
 | nil=>simp[gonS]
 | cons q g a=>
  have:=a (del S q.toNat);unfold gonS at this ⊢;rw[wS,this];unfold del;simp
  grind
theorem NG (x:Tx):pP x x.gone.length={x with fo:=hasF x.fo (gonS (x.fo.hs 0) x.gone),put:=gonP x.put x.gone}:=by unfold pP;rw[xN]
theorem JA {α:Type} (k:Int):∀(p t:List (Int×α)),se p->getZ (uN t p) k=(getZ p k).or (getZ t k)
 | [],t,_=>rfl
 | y::p,t,h=>by
  have c:=JA k p (putZ t y.1 y.2) h.tail;show getZ (uN (putZ t y.1 y.2) p) k=_;rw[c,Ke];by_cases a:y.1=k
  .rw[ze a];have:getZ p k=none:=by
    cases b:getZ p k with
    | none=>rfl
    | some v=>have:=h.head _ (nt b);simp at this;omega
   rw[this,<-a,ZC];rfl
  .rw[zb a,lu _ (yF a)]
section
variable {x : Tx} {s : Fs} {T : List Nat}
theorem TJ.congr {o2:Ow} (h:TJ pf g o put k T ow) (d:o2.fl=o.fl/\o2.fk=o.fk) (f:o2.fo.hs=o.fo.hs) (e:∀a,1<=a->o2.fo.nd a=o.fo.nd a) (i:vN o2.fo 0=true):TJ pf g o2 put k T ow:=by
 have b:∀n,uT o2.fo 4 n=uT o.fo 4 n:=fun n=>by rw[lU,lU,f];unfold vN;rw[e 1 (by omega),e 2 (by omega),e 3 (by omega)]
 exact⟨h.k1,by rw[d.1,d.2];exact h.fk,i,h.blk,h.nz,h.gn,by rw[d.2];exact h.rg,h.sl,by rw[f];exact h.hs,h.rise,fun y c=>by rw[b];exact h.pk y c,h.pd⟩
theorem TI.nz (h:TI x s T) (c:j<16):x.fo.nd 0 j≠0:=by obtain⟨b,a⟩:=h.ex;exact a.nz j c
theorem TI.ndPos (h:TI x s T) (a:j<16):37<=x.fo.nd 0 j/\(x.fo.nd 0 j<(s.k:Int)\/256<x.fo.nd 0 j/\x.fo.nd 0 j<=x.fake):=(h.pos (i:=32) (b:=j) (zu ⟨rfl,a⟩)).resolve_left (h.nz a)
theorem TI.fkFull (h:TI x s T) (c:x.full=false):x.fake=256:=by obtain⟨b,a⟩:=h.ex;exact a.fk.2 c
theorem TI.ownNd (h:TI x s T) (X:j<16):TI (pW s.k x j) s T/\((pW s.k x j).full=false->x.full=false)/\(∀n,uT (pW s.k x j).fo 4 n=uT x.fo 4 n) /\
 ((pW s.k x j).fo.nd 0 j<256->uT x.fo 4 ((pW s.k x j).fo.nd 0 j).toNat=false)/\(∀j',j'≠j->(pW s.k x j).fo.nd 0 j'=x.fo.nd 0 j')/\x.fake<=(pW s.k x j).fake/\(pW s.k x j).fake<=x.fake+1 /\
 (∀a,1<=a->(pW s.k x j).fo.nd a=x.fo.nd a/\(pW s.k x j).fo.hs a=x.fo.hs a):=by
 obtain⟨V,E⟩:=h.ex;obtain⟨q,c,I,O,W,S,U,M,L,R,o,P,K,l,w⟩:=E.own (zu ⟨rfl,X⟩:vsl 32 j);have H:x.pf 32 j=x.fo.nd 0 j:=rfl;rw[H]at I;have e:pW s.k x j={x.wow c with fo:=ndF c.fo j q}:=by unfold pW;rw[I]
 rw[e];have g:∀j',(ndF c.fo j q).nd 0 j'=if j'=j then q else x.fo.nd 0 j':=fun j'=>by unfold ndF;simp only[true_and];rw[o.1];rfl
 have d:∀a,1<=a->(ndF c.fo j q).nd a=x.fo.nd a:=fun a r=>by
  funext j';unfold ndF;simp only;rw[zb (by omega),o.1];rfl
 have f:∀a,1<=a->(ndF c.fo j q).hs a=x.fo.hs a:=fun a r=>o.2 a (by omega);have t:({x.wow c with fo:=ndF c.fo j q}:Tx).pf=updP x.pf 32 j q:=by
  funext i b
  unfold updP Tx.pf;simp only[g];by_cases y:i<32
  .simp[y];grind [Tx.wow]
  .simp[y];grind
 have B:vN (ndF c.fo j q) 0=true:=by
  have:=w.nz 0 (by omega);unfold vN;rw[g];unfold updP at this;by_cases A:0=j
  .rw[ze A];simpa using O
  .rw[zb A];simp only[A,and_false,ua]at this;have u:x.fo.nd 0 0≠0:=this;simpa using u
 have G:∀n,uT (ndF c.fo j q) 4 n=uT x.fo 4 n:=fun n=>by rw[lU,lU];unfold vN;rw[d 1 (by omega),d 2 (by omega),d 3 (by omega),f 1 (by omega),f 2 (by omega),f 3 (by omega)]
 have v:∀n,uT c.fo 4 n=uT x.fo 4 n:=fun n=>by rw[lU,lU];unfold vN;rw[o.1,o.2 1 (by omega),o.2 2 (by omega),o.2 3 (by omega)];rfl
 have m:=w.congr (o2:=⟨ndF c.fo j q,c.fl,c.fk⟩) ⟨rfl,rfl⟩ rfl (fun a r=>by rw[d a r,o.1];rfl) B;rw[<-t]at m;refine⟨⟨⟨_,m⟩,fun i b y p=>?_,h.len,fun a u N=>W3 (d a u) (f a u) (h.fine a u N),h.nd,h.dv,fun j' m=>?_⟩,R,G,fun C=>?_,fun j' z=>(g j').trans (zb z),M,L,fun a r=>⟨d a r,f a r⟩⟩
 .rw[t]at p ⊢;have Q:updP x.pf 32 j q i b=x.pf i b:=zb (by omega);rw[Q]at p ⊢;exact h.pp i b y p
 .show getZ x.put ((ndF c.fo j q).nd 0 j')=none;rw[g];split
  .rcases l with l|l
   .rw[l,H];exact h.np j X
   .cases C:getZ x.put q with
    | none=>rfl
    | some D=>exact yb rfl (l _ (nt C))
  .exact h.np j' m
 .have J:(ndF c.fo j q).nd 0 j=q:=(g j).trans (ze rfl);have F:q<256:=by rw[<-J];exact C
  show uT x.fo 4 ((ndF c.fo j q).nd 0 j).toNat=false;rw[J,<-v];exact (S F).2
theorem TI.owns (h:TI x s T):∀j,j<=16->TI (vT s.k x j) s T/\((vT s.k x j).full=false->x.full=false)/\(∀n,uT (vT s.k x j).fo 4 n=uT x.fo 4 n) /\
 (∀j',j'<j->sA x j'=true->(vT s.k x j).fo.nd 0 j'<256->uT x.fo 4 ((vT s.k x j).fo.nd 0 j').toNat=false)/\(∀j',j<=j'->(vT s.k x j).fo.nd 0 j'=x.fo.nd 0 j')/\x.fake<=(vT s.k x j).fake/\(vT s.k x j).fake<=x.fake+j /\
 (∀a,1<=a->(vT s.k x j).fo.nd a=x.fo.nd a/\(vT s.k x j).fo.hs a=x.fo.hs a)/\(∀j',sA x j'=false->(vT s.k x j).fo.nd 0 j'=x.fo.nd 0 j')
 | 0,_=>⟨h,id,fun _=>rfl,fun j' d=>by omega,fun _ _=>rfl,wO _,by show x.fake<=_;omega,fun _ _=>⟨rfl,rfl⟩,fun _ _=>rfl⟩
 | j+1,F=>by
  obtain⟨t,u,m,p,o,r,D,i,q⟩:=h.owns j (by omega);unfold vT;split
  .rename_i f;obtain⟨w,B,z,C,l,y,E,v⟩:=t.ownNd (j:=j) (by omega);refine⟨w,fun A=>u (B A),fun n=>(z n).trans (m n),fun j' d b c=>?_,fun j' d=>(l j' (by omega)).trans (o j' (by omega)),wN r y,by omega,fun a g=>⟨(v a g).1.trans (i a g).1,(v a g).2.trans (i a g).2⟩,fun j' b=>?_⟩
   .by_cases e:j'=j
    .subst e;rw[<-m];exact C c
    .rw[l j' e]at c ⊢;exact p j' (by omega) b c
   .have e:j'≠j:=(by rintro rfl;rw[f]at b;cases b);exact (l j' e).trans (q j' b)
  .rename_i f;refine⟨t,u,m,fun j' d b c=>?_,fun j' d=>o j' (by omega),r,by omega,i,q⟩;by_cases e:j'=j
   .subst e;rw[b]at f;exact yb rfl f
   .exact p j' (by omega) b c
end
section
variable {x : Tx} {s : Fs} {T : List Nat}
def pk2 (x:Tx) (j:Nat):List Int:=rL (x.nodes.getD (2*j) zN)++rL (x.nodes.getD (2*j+1) zN)
theorem QZ (h:mj X) (l:∀p∈X.P,0<=p/\p<256):ju X=0:=by
 have e:=fld8 h;rcases h with rfl|⟨i,f,k,g,j,d⟩
 .decide
 .unfold ju vL;have c:X.P.any badP=false:=by rw[tb];intro p a;have:=l p a;unfold badP;simp;omega
  have b:tI X.P=0:=by unfold tI;rw[zb (by omega),c];rfl
  rw[zb (by omega),zb (by omega),zb (by omega),zb (by omega),zb (by simpa using b),zb (by omega)]
theorem TI.ptIn (h:TI x s T) (l:i<32) {p:Int} (m:p∈(x.nodes.getD i zN).P):p=0\/37<=p/\(p<(s.k:Int)\/256<p/\p<=x.fake/\(getZ x.put p).isSome=true):=by
 obtain⟨b,j⟩:=va.1 m;have e:x.pf i b=p:=(ze l).trans (by rw[zh,j];rfl);have d:=h.pos (i:=i) (b:=b) (zt l);have a:=h.pp i b l;rw[e]at d a;by_cases f:256<p
 .exact d.imp id fun c=>⟨c.1,c.2.imp id fun g=>⟨f,g.2,a f⟩⟩
 .omega
theorem TI.k256 (h:TI x s T):s.k<=256:=by obtain⟨b,a⟩:=h.ex;exact a.k1
theorem TI.right (h:TI x s T) (c:x.full=false) (b:i<32):ju (x.nodes.getD i zN)=0:=
 QZ (h.nd i b) fun p a=>by have:=h.ptIn b a;have:=h.fkFull c;have:=h.k256;omega
theorem pk2_ok (h:TI x s T) (d:x.full=false) (e:j<16):(pk2 x j).length=64/\ue (pk2 x j):=by
 have b:=h.right d (i:=2*j) (by omega);have c:=h.right d (i:=2*j+1) (by omega);unfold pk2 rL;refine⟨by rw[zl,WP b,WP c],fun y a=>?_⟩;rcases yv.1 a with a|a
 .exact YY b y a
 .exact YY c y a
theorem TI.ndInj (h:TI x s T) (g:i<16) (k:j<16) (l:x.fo.nd 0 i=x.fo.nd 0 j):i=j:=by obtain⟨f,a⟩:=h.ex;have c:=a.blk 32 i (zu ⟨rfl,g⟩) (a.nz i g);have b:=a.blk 32 j (zu ⟨rfl,k⟩) (a.nz j k);have d:x.pf 32 i=x.fo.nd 0 i:=rfl;have e:x.pf 32 j=x.fo.nd 0 j:=rfl;rw[d,l]at c;rw[e]at b;rw[c]at b;simpa using b
theorem TI.ndBlk (h:TI x s T) {b:Nat} (l:i<32) (k:j<16):x.pf i b≠x.fo.nd 0 j:=fun c=>by obtain⟨g,a⟩:=h.ex;have d:=a.blk 32 j (zu ⟨rfl,k⟩) (a.nz j k);have f:x.pf 32 j=x.fo.nd 0 j:=rfl;have e:=a.blk i b (zt l) (by rw[c];exact h.nz k);rw[c]at e;rw[f,e]at d;simp at d;omega
theorem TI.packs (h:TI x s T) (B:x.full=false) (C:∀j,j<16->sA x j=true->uT x.fo 4 (x.fo.nd 0 j).toNat=false) (A:TJ x.pf x.gone x.ow x.put s.k T ow):∀j,j<=16 ->
 TJ x.pf x.gone x.ow (rn x j) s.k T ow/\(∀p,(∀j',j'<j->sA x j'=true->x.fo.nd 0 j'≠p)->getZ (rn x j) p=getZ x.put p)/\(∀j',j'<j->sA x j'=true->getZ (rn x j) (x.fo.nd 0 j')=some (pk2 x j')) /\
 (∀y∈rn x j,y∈x.put\/∃j',j'<j/\sA x j'=true/\y.1=x.fo.nd 0 j')
 | 0,_=>⟨A,fun _ _=>rfl,fun j' d=>by omega,fun y e=>zt e⟩
 | j+1,w=>by
  obtain⟨t,u,q,r⟩:=h.packs B C A j (by omega);unfold rn;split
  .rename_i f;have n:=A.blk 32 j (zu ⟨rfl,by omega⟩) (A.nz j (by omega));have v:x.pf 32 j=x.fo.nd 0 j:=rfl;rw[v]at n;refine⟨t.put' (by rw[n];rfl) (fun _=>C j (by omega) f) (fun i b c=>by rw[n]at c;injection c with c;injection c with c;omega) (pk2_ok h B (by omega)),fun p l=>?_,fun j' d a=>?_,fun y e=>?_⟩
   .rw[lu _ (yF (l j (by omega) f))];exact u p fun j' d a=>l j' (by omega) a
   .by_cases c:j'=j
    .subst c;exact ZC _ _ _
    .rw[lu _ (fun z=>c (h.ndInj (by omega) (by omega) z))];exact q j' (by omega) a
   .rcases ms e with rfl|e
    .exact zu ⟨j,by omega,f,rfl⟩
    .rcases r y e with g|⟨j',g,m,o⟩
     .exact zt g
     .exact zu ⟨j',by omega,m,o⟩
  .rename_i f;refine⟨t,fun p l=>u p fun j' d a=>l j' (by omega) a,fun j' d a=>?_,fun y e=>?_⟩
   .by_cases c:j'=j
    .subst c;exact yb a f
    .exact q j' (by omega) a
   .rcases r y e with g|⟨j',g,m,o⟩
    .exact zt g
    .exact zu ⟨j',by omega,m,o⟩
theorem TJ.gones (h:TJ pf g o put k T ow):
 TJ pf [] {o with fo:=hasF o.fo (gonS (o.fo.hs 0) g)} (gonP put g) k T fun z=>if z∈g then none else ow z:=by
 have s:ow 0=none:=by
  cases t:ow 0 with
  | none=>rfl
  | some a=>have:=h.lt t;omega
 refine⟨h.k1,h.fk,h.root,fun i b r q=>?_,h.nz,fun p e=>yb e (yE),fun p a e=>?_,fun p i b e=>?_,fun n v=>?_,X4 h.rise,fun y m=>?_,fun y m=>h.pd y (LI m)⟩
 .have j:=h.blk i b r q;have f:=h.gn (pf i b);unfold vsl at r
  grind
 .have:=h.rg p a
  grind
 .have j:=h.sl p i b;have f:=h.gn p
  grind
 .have j:=h.hs n v;show gonS (o.fo.hs 0) g n=true↔_;rw[Rp,j];have f:∀p∈g,p≠0->37<=p:=fun p e d=>(h.lt (h.gn p e d)).1;constructor
  .rintro ⟨c,u⟩;rw[zb]
   .exact c
   .intro l;exact u _ l (yy n)
  .intro c;split at c
   .cases c
   .rename_i l;refine⟨c,fun p e w=>l ?_⟩;by_cases d:p=0
    .subst d;have:n=0:=(by simpa using w.symm);subst this;rw[show ((0:Nat):Int)=0 from rfl,s]at c;cases c
    .have:=f p e d;rw[show (n:Int)=p by omega];exact e
 .have j:=h.pk y (LI m);have f:y.1∉g:=fun l=>by have c:=mJ (X4 (g:=g) h.rise) (show (y.1,y.2)∈gonP put g from m);rw[Zr,ze l]at c;cases c
  simp only[KT,f,ua];exact j
end
section
variable {α : Type}
theorem Jq : ∀{p t:List (Int×α)} {z:Int×α},z∈uN t p->z∈p\/z∈t
 | [],_,_,h=>zu h
 | y::r,t,z,h=>by
  rcases Jq (p:=r) (t:=putZ t y.1 y.2) h with h|h
  .exact zt (xh _ h)
  .rcases ms h with h|h
   .exact zt (h▸xx)
   .exact zu h
theorem OY {l:List (Int×α)} (h:se l):(l.map (·.1)).Nodup:=
 List.Pairwise.imp (R:=fun a b=>a<b) (fun {a b} c=>by omega) (wh.2 h)
theorem Sx {l:List (Int×α)} (h:se l) (K:List Int) (d:∀z∈l,z.1∈K):l.length<=K.length:=by
 have a:=Zm (OY h) (ys:=K) fun x b=>by obtain⟨z,c,rfl⟩:=zV.1 b;exact d z c
 simpa using a
end
theorem VA (s:Fs) (b:List Int) {put:List (Int×List Int)} (h:se put):∀j,se (dfK s b put j)
 | 0=>h
 | j+1=>by
  unfold dfK;split
  .exact VA s b h j
  .exact Zk _ _ (VA s b h j)
theorem iT (s:Fs) (b:List Int) {put:List (Int×List Int)} {z:Int×List Int}:∀j,z∈dfK s b put j->(∃i,i<j/\z=(((1+i:Nat):Int),sec b i))\/z∈put
 | 0,h=>zu h
 | j+1,h=>by
  have a:=iT s b (put:=put) (z:=z) j;unfold dfK at h;split at h
  .rcases a h with⟨i,c,e⟩|h
   .exact zt ⟨i,by omega,e⟩
   .exact zu h
  .rcases ms h with h|h
   .exact zt ⟨j,by omega,h⟩
   .rcases a h with⟨i,c,e⟩|h
    .exact zt ⟨i,by omega,e⟩
    .exact zu h
theorem Vf (s:Fs) (b:List Int) {put:List (Int×List Int)} {k:Int}:∀j:Nat,(k<1\/(j:Int)<k)->getZ (dfK s b put j) k=getZ put k
 | 0,_=>rfl
 | j+1,h=>by
  unfold dfK;split
  .exact Vf s b j (by omega)
  .rw[lu _ (by omega)];exact Vf s b j (by omega)
theorem PI (x:Tx) (s:Fs) (h:se x.put):se (tq x s):=by
 unfold tq dfQ;split
 .exact VA s _ h 3
 .exact Zk _ _ (VA s _ h 3)
theorem Ri (x:Tx) (s:Fs) {z:Int×List Int} (h:z∈tq x s):z=(4,sr x.rows.length x.rows)\/(∃i,i<3/\z=(((1+i:Nat):Int),sec (uC x.fo) i))\/z∈x.put:=by
 unfold tq dfQ at h;split at h
 .exact zu (iT s _ 3 h)
 .rcases ms h with h|h
  .exact zt h
  .exact zu (iT s _ 3 h)
theorem Rj (x:Tx) (s:Fs) {k:Int} (h:k<1\/4<k):getZ (tq x s) k=getZ x.put k:=by
 unfold tq dfQ;split
 .exact Vf s _ 3 (by omega)
 .rw[lu _ (by omega)];exact Vf s _ 3 (by omega)
theorem Nb (h:∀a,a<4->badN f a=false):(uC f).length=192/\ue (uC f):=by
 refine⟨by simp[uC,Ln,Ls],fun y b=>?_⟩;unfold uC at b;rcases yv.1 b with b|b
 .unfold Ln at b;obtain⟨m,d,rfl⟩:=zV.1 b;have d:=yT.1 d;have c:=h (m / 16) (by omega);unfold badN at c;rw[tb]at c;have e:=c (m%16) (yT.2 (by omega));unfold nf at e;simp at e;omega
 .unfold Ls at b;obtain⟨m,_,rfl⟩:=zV.1 b;have:=Wn (f.hs (m / 32)) (m%32);omega
theorem gm {l:List Int} (h:ue l) (n:Nat):ue (sec l n):=fun y a=>h y (xY (xd a))
theorem O8 {l:List (Int×Int)} (h:sf l=0):(sr l.length l).length=64/\ue (sr l.length l):=by
 have b:=Zj h;refine⟨WO _ _ b.1,fun y a=>?_⟩;have c:=(iF l).1 b.2;unfold sr at a;rcases yN.1 a with rfl|a
 .have:=b.1;omega
 .rcases yv.1 a with a|a
  .unfold mA at a;obtain⟨z,d,a⟩:=wU.1 a;have:=c.1 z d;simp at a;rcases a with rfl|rfl|rfl<;>omega
  .have:=x9 a;omega
theorem L4 {k m:Nat} (o:m<k):∀{l:List Rb} {st:Dk},On st k->(∀x∈l,RbOk k x)->(∀x∈l,x.2.2=false->x.1≠m)->sec (runE st l).N m=sec st.N m
 | [],_,_,_,_=>rfl
 | x::l,st,h,b,d=>by
  have g:=L4 o (l:=l) (h.do (b x xx)) (fun y a=>b y (xh _ a)) (fun y a=>d y (xh _ a));refine g.trans ?_;have c:=b x xx;have i:=d x xx;unfold doE;split
  .rw[gY h]
  .rename_i e;rcases c with c|⟨j,f⟩
   .exact yb c e
   .rw[Zc h];exact Zz h.n j o f (yF (i (by simpa using e)))
theorem Kp {L:List Wr} {x:Rb}:∀{n:Nat},x∈oP L n->∃j,j<n/\x=(6+j,(L[j]?.getD (0,[])).2,false)
 | 0,h=>by simp[oP]at h
 | n+1,h=>by
  unfold oP at h;rcases yv.1 h with h|h
  .obtain⟨j,b,a⟩:=Kp h;exact⟨j,by omega,a⟩
  .simp at h;exact⟨n,by omega,h⟩
theorem Yf (e:64<=kd) (sq:Int) (f:L.length<=30) (d:∀x∈L,x.2.length=64):∀x∈opsB sq L,RbOk kd x/\(x.2.2=false->5<=x.1/\x.1<37):=by
 intro x a;unfold opsB opsA at a;simp only[yv,yN,yE,qG]at a;have b:RbOk kd barR/\(barR.2.2=false->5<=barR.1/\barR.1<37):=⟨zt rfl,fun h=>by simp[barR]at h⟩;rcases a with ((rfl|rfl|rfl)|a)|rfl|rfl|rfl|rfl|rfl
 .exact b
 .exact⟨zu ⟨by show 5<kd;omega,kw⟩,fun _=>by show 5<=5/\5<37;omega⟩
 .exact b
 .obtain⟨j,c,rfl⟩:=Kp a;refine⟨zu ⟨by show 6+j<kd;omega,?_⟩,fun _=>by show 5<=6+j/\6+j<37;omega⟩;show ((L[j]?.getD (0,[])).2).length=64;rw[zf c];exact d _ (zz c)
 .exact⟨zu ⟨by show 6+L.length<kd;omega,kw⟩,fun _=>by show 5<=6+L.length/\6+L.length<37;omega⟩
 .exact b
 .exact⟨zu ⟨by show 5<kd;omega,WT _ _ _⟩,fun _=>by show 5<=5/\5<37;omega⟩
 .exact⟨zu ⟨by show 6+L.length<kd;omega,L1 _ _⟩,fun _=>by show 5<=6+L.length/\6+L.length<37;omega⟩
 .exact b
theorem kO: ue zS:=VY 64
theorem VL {l:List Int} (h:ue l) (i:Nat) {x:Int} (b:0<=x/\x<=255):ue (l.set i x):=fun y a=>by
 rcases vu a with a|a
 .exact h y a
 .rw[a];exact b
theorem Ou {N:List Int} (h:ue N) (b:ue D) (n:Nat):ue (putS N n D):=fun x a=>by
 unfold putS at a;rcases yv.1 a with a|a
 .exact h x (xd a)
 .rcases yv.1 a with a|a
  .exact b x a
  .exact h x (xY a)
theorem Jz {sq:Int} {L:List Wr} (a:0<=sq/\sq<4294967296) (c:L.length<=30) (b:∀x∈L,x.1<256):∀k,ue (mh sq L k)
 | 0=>VZ (VL (VL kO 0 (by omega)) 5 (by omega)) (i9 sq a.1 a.2)
 | k+1=>by
  refine VL (Jz a c b k) (6+k) ?_;cases h:L[k]? with
  | none=>exact⟨by show (0:Int)<=((0:Nat):Int);omega,by show ((0:Nat):Int)<=255;omega⟩
  | some x=>
   have:=b x (xK h);exact⟨by show (0:Int)<=((x.1:Nat):Int);omega,by show ((x.1:Nat):Int)<=255;omega⟩
theorem OR {sm:Int} (a:0<=sq/\sq<4294967296) (b:0<=sm/\sm<4294967296):ue (qS sq sm):=
 VZ (VZ (VL kO 0 (by omega)) (i9 sq a.1 a.2)) (i9 sm b.1 b.2)
theorem YS {k:Nat}:∀{l:List Rb} {st:Dk},On st k->(∀x∈l,RbOk k x/\(x.2.2=false->ue x.2.1))->ue st.N->ue (runE st l).N
 | [],_,_,_,a=>a
 | x::l,st,h,b,a=>by
  refine YS (l:=l) (h.do (b x xx).1) (fun y c=>b y (xh _ c)) ?_;unfold doE;split
  .rw[gY h];exact a
  .rename_i d;rw[Zc h];exact Ou a ((b x xx).2 (by simpa using d)) _
theorem Pq (l:64<=kd) (m:kd<=256) (n:0<=sq/\sq<4294967295) (k:L.length<=30) (i:∀x∈L,WrOk kd x/\ue x.2):∀x∈opsC sq L,RbOk kd x/\(x.2.2=false->ue x.2.1):=by
 intro x a;have c:RbOk kd barR/\(barR.2.2=false->ue barR.2.1):=⟨zt rfl,fun h=>by simp[barR]at h⟩;have g:∀y∈L,y.1<256:=fun y b=>by have:=(i y b).1.1;omega
 unfold opsC at a;split at a
 .rw[xw]at a;subst a;exact c
 .unfold opsJ at a;rcases yv.1 a with a|a
  .refine⟨(Yf l (sq+1) k (fun y b=>(i y b).1.2) x a).1,fun _=>?_⟩;unfold opsB opsA at a;simp only[yv,yN,yE,qG]at a;rcases a with ((rfl|rfl|rfl)|a)|rfl|rfl|rfl|rfl|rfl
   .exact fun y b=>yb b yE
   .exact kO
   .exact fun y b=>yb b yE
   .obtain⟨j,d,rfl⟩:=Kp a;show ue ((L[j]?.getD (0,[])).2);rw[zf d];exact (i _ (zz d)).2
   .exact kO
   .exact fun y b=>yb b yE
   .exact Jz (by omega) k g _
   .exact OR (by omega) (Z7 L)
   .exact fun y b=>yb b yE
  .have e:pM (emit L) 0=emit (tO L 0):=(by unfold pM;rw[WZ];rfl);rw[e]at a;unfold emit at a;obtain⟨y,b,rfl⟩:=zV.1 a;have d:=lp (h:=0) (by omega) (fun y b=>(i y b).1) y b;have f:=WS _ _ _ ((fC L 0 (by omega) y).1 b).2;exact⟨zu d,fun _=>(i _ f).2⟩
theorem Xt (w:64<=kd) (v:kd<=256) (sq:Int) (y:L.length<=30) (u:∀x∈L,WrOk kd x) {st:Dk} (h:On st kd):
 On (runE st (opsC sq L)) kd/\(runE st (opsC sq L)).W.length<=st.W.length+70/\∀m,m<kd->(m<5\/37<=m)->sec (runE st (opsC sq L)).N m=(ss L m).getD (sec st.N m):=by
 unfold opsC;split
 .rename_i f;subst f;refine⟨h.run fun x a=>?_,?_,fun m c _=>?_⟩
  .simp at a;subst a;exact zt rfl
  .have:=gK st [barR];simp at this;omega
  .refine (L4 c h (fun x a=>?_) (fun x a=>?_)).trans rfl
   .simp at a;subst a;exact zt rfl
   .simp at a;subst a;intro k;simp[barR]at k
 .have d:=Yf w (sq+1) y fun x a=>(u x a).2;have b:=h.run (l:=opsB (sq+1) L) fun x a=>(d x a).1;have j:pM (emit L) 0=emit (tO L 0):=by unfold pM;rw[WZ];rfl
  have e:=lp (h:=0) (by omega) u;unfold opsJ;rw[Zf,j];refine⟨b.run (Gg e),?_,fun m c r=>?_⟩
  .have s:=gK (runE st (opsB (sq+1) L)) (emit (tO L 0));have t:=gK st (opsB (sq+1) L);have o:=Zl L 0 (by omega);have q:(emit (tO L 0)).length=(tO L 0).length:=yw ..;have p:(opsB (sq+1) L).length=L.length+8:=(by unfold opsB opsA;simp[VK]);omega
  .have i:=L4 c h (fun x a=>(d x a).1) fun x a g=>(by have:=(d x a).2 g;omega);rw[(Ze b e).1,VW v (by omega) b.n u,Ki b.n u m c,i]
theorem Nu {l:List (Int×List Int)} (h:se l) (o:∀y∈l,0<=y.1) (m:Nat):ss (wrOf l) m=getZ l (m:Int):=by
 have n:((wrOf l).map fun x=>x.1).Nodup:=by unfold wrOf;rw[vB];refine wh.2 (List.Pairwise.imp_of_mem (R:=fun (a b:Int×List Int)=>a.1<b.1) (fun {a b} f i g=>?_) h);have:=o a f;have:=o b i;show a.1.toNat≠b.1.toNat;omega
 cases c:getZ l (m:Int) with
 | some D=>
  exact Jv n (x:=(m,D)) (zV.2 ⟨_,nt c,by simp⟩)
 | none=>
  rw[KF];intro x k j;obtain⟨y,d,rfl⟩:=zV.1 k;have:=o y d;have e:=mJ h (show (y.1,y.2)∈l from d);rw[show y.1=(m:Int) by simp at j;omega,c]at e;cases e
structure SI (s:Fs) (c:Nat) (A:Nat->AN):Prop where
 tv:∀T,TV (tx0 s) s 0 T A
 rows:sf s.rows=0
 rise:se s.todo
 td:s.todo.length<=30
 tk:∀y∈s.todo,(1<=y.1/\y.1<=4\/37<=y.1)/\y.1<(s.k:Int)/\y.2.length=64/\ue y.2
 k0:64<=s.k
 on:On s.dk s.k
 bn:ue s.dk.N
 held:s.held=[]
 sq:0<=s.sq/\s.sq<=c
 W:s.dk.W.length<=70*c
 cc:c<=2000
section
variable {s : Fs} {c : Nat} {A : Nat->AN}
theorem SI.k1 (h:SI s c A):s.k<=256:=(h.tv []).ti.k256
theorem SI.wrs (h:SI s c A):(wrOf s.todo).length<=30/\∀x∈wrOf s.todo,WrOk s.k x/\(x.1<5\/37<=x.1):=by refine⟨by unfold wrOf;rw[yw];exact h.td,fun x d=>?_⟩;obtain⟨y,a,rfl⟩:=zV.1 d;obtain⟨f,e,b,_⟩:=h.tk y a;exact⟨⟨by show y.1.toNat<_;omega,b⟩,by show y.1.toNat<5\/37<=y.1.toNat;omega⟩
theorem SI.pos (h:SI s c A):∀y∈s.todo,0<=y.1:=fun y a=>by have:=(h.tk y a).1;omega
theorem SI.sec (h:SI s c A):ja s:=fun p b d=>by
 unfold secE;cases a:getZ s.todo (p:Int) with
 | some D=>exact⟨(h.tk _ (nt a)).2.2.1,(h.tk _ (nt a)).2.2.2⟩
 | none=>exact⟨mD h.on.n b,gm h.bn p⟩
theorem SI.syncOk (h:SI s c A) (l:c<=1000):kK s:=by
 have d:=h.wrs;have k:=h.k1;refine⟨⟨fun x f=>⟨(d.2 x f).2,(d.2 x f).1.1⟩,?_,d.1⟩,fun y e=>?_,by have:=h.sq;omega,by have:=h.W;omega⟩
 .unfold wrOf;rw[vB];refine wh.2 (List.Pairwise.imp_of_mem (R:=fun (a b:Int×List Int)=>a.1<b.1) (fun {a b} g j i=>?_) h.rise);have:=h.pos a g;have:=h.pos b j;show a.1.toNat≠b.1.toNat;omega
 .have:=h.pos y e;have:=(h.tk y e).2.1;omega
theorem SI.syncE (h:SI s c A) {p:Nat} (e:p<s.k) (f:p<5\/37<=p):secE (mB s) p=secE s p:=by have a:=h.wrs;have b:=(Xt h.k0 h.k1 s.sq a.1 (fun x d=>(a.2 x d).1) h.on).2.2 p e f;rw[Nu h.rise h.pos]at b;exact b
theorem ZZ {z:Tx} {s s':Fs} (h:TI x s T) (f:z.nodes=x.nodes) (g:∀i b,i<32->x.pf i b≠0->secT z s' (x.pf i b).toNat=secT x s (x.pf i b).toNat):∀j,j<32->vw z s' j=vw x s j/\∀b,blk z s' j b=blk x s j b:=fun j a=>by
 have this:∀b,blk z s' j b=blk x s j b:=fun b=>by
  unfold blk;have d:z.pf j b=x.pf j b:=by unfold Tx.pf;rw[ze a,ze a,f]
  rw[d];unfold tE;split
  .rfl
  .rename_i e;exact g j b a e
 have c:z.dirD s' j=x.dirD s j:=by rw[lP _ _ a,lP _ _ a,f,show blk z s' j=blk x s j from funext this]
 refine⟨?_,this⟩;unfold vw;rw[f,c]
theorem SI.sync (h:SI s c A) (J:c<2000):SI (mB s) (c+1) A:=by
 have e:=h.wrs;obtain⟨E,I,G⟩:=Xt h.k0 h.k1 s.sq e.1 (fun x f=>(e.2 x f).1) h.on;refine⟨fun T=>?_,h.rows,List.Pairwise.nil,ye _,fun y k=>yb k yE,h.k0,E,?_,h.held,?_,by have:=h.W;show (runE s.dk (opsC s.sq (wrOf s.todo))).W.length<=_;omega,J⟩
 .have d:=h.tv T;obtain⟨⟨C,F⟩,w,p,B,m,n,t⟩:=d.ti;have l:=ZZ (z:=tx0 (mB s)) (s':=mB s) d.ti rfl fun i b D o=>by have H:=(d.ti.pos (i:=i) (b:=b) (zt D)).resolve_left o;have q:(tx0 s).fake=256:=rfl;exact h.syncE (by omega) (by omega)
  exact⟨⟨⟨C,F⟩,w,p,B,m,n,t⟩,d.cap,fun j a=>(l j a).1.trans (d.v j a),fun j a b r u g=>by rw[(l j a).2];exact d.z j a b r u g⟩
 .refine YS h.on (Pq h.k0 h.k1 (by have:=h.sq;omega) e.1 fun x f=>⟨(e.2 x f).1,?_⟩) h.bn;obtain⟨y,k,rfl⟩:=zV.1 f;exact (h.tk y k).2.2.2
 .have:=h.sq;show 0<=seqC _ _/\seqC _ _<=_;unfold seqC;split<;>omega
theorem flat8 (f:Nat->Nat->Int):∀T:List Nat,(T.flatMap fun i=>(List.range 8).map (f i)).length=8*T.length
 | []=>rfl
 | a::T=>by rw[xA,zl,flat8 f T,yw,sF,yz];omega
theorem Om (x:Tx):((List.range 16).filter (sA x)).length<=x.dirty.length:=by
 have h:((List.range 16).filter (sA x)).Nodup:=List.nodup_range.filter _;have i:(((List.range 16).filter (sA x)).map fun j:Nat=>if (getZ x.dirty (2*(j:Int)+1)).isSome=true then 2*(j:Int)+1 else 2*(j:Int)+2).Nodup:=by refine wh.2 (h.imp fun {a b} k=>?_);split<;>split<;>omega
 have g:=Zm i (ys:=x.dirty.map (·.1)) fun z l=>by
  obtain⟨j,f,rfl⟩:=zV.1 l;have e:=(vt.1 f).2;unfold sA at e;rw[rU]at e;split
  .rename_i c;obtain⟨v,d⟩:=ve.1 c;exact zV.2 ⟨_,nt d,rfl⟩
  .rename_i c;obtain⟨v,d⟩:=ve.1 (e.resolve_left c);exact zV.2 ⟨_,nt d,rfl⟩
 simpa using g
theorem TV.ends {A':Nat->AN} (h:TV x s n T A') (hf:(vT s.k x 16).full=false):
 (∃ow,TJ (endT s.k x).pf [] ⟨(endT s.k x).fo,false,256⟩ (endT s.k x).put s.k T ow)/\(endT s.k x).nodes=x.nodes/\(endT s.k x).rows=x.rows/\(∀a,1<=a->(endT s.k x).fo.nd a=x.fo.nd a/\(endT s.k x).fo.hs a=x.fo.hs a) /\
  (∀i b,i<32->x.pf i b≠0->getZ (endT s.k x).put (x.pf i b)=getZ x.put (x.pf i b)) /\
  (∀j,j<16->sA x j=true->getZ (endT s.k x).put ((endT s.k x).fo.nd 0 j)=some (pk2 x j)) /\
  (∀j,j<16->sA x j=false->(endT s.k x).fo.nd 0 j=x.fo.nd 0 j/\getZ (endT s.k x).put (x.fo.nd 0 j)=none) /\
  (endT s.k x).put.length<=8*T.length+x.dirty.length:=by
 obtain⟨f,o2,o3,o4,o5,o6,o7,U,R⟩:=h.ti.owns 16 zL;obtain⟨K,q2,q3,q4,q5⟩:=V1 s.k x 16;have O:=f.fkFull hf;have g:∀j,sA (vT s.k x 16) j=sA x j:=fun j=>by unfold sA;rw[q2]
 have L:∀j,pk2 (vT s.k x 16) j=pk2 x j:=fun j=>by unfold pk2;rw[K]
 obtain⟨ow,w⟩:=f.ex;have hk:=h.ti.k256;have hu:∀j,j<16->sA (vT s.k x 16) j=true->uT (vT s.k x 16).fo 4 ((vT s.k x 16).fo.nd 0 j).toNat=false:=fun j c l=>by have:=f.ndPos c;rw[o3];exact o4 j c ((g j).symm.trans l) (by omega)
 obtain⟨V,Q,Y,Z⟩:=f.packs hf hu w 16 zL;have E:=V.gones;have ho:(vT s.k x 16).ow=⟨(vT s.k x 16).fo,false,256⟩:=by unfold Tx.ow;rw[hf,O]
 rw[ho]at E;have hz:endT s.k x={vT s.k x 16 with fo:=hasF (vT s.k x 16).fo (gonS ((vT s.k x 16).fo.hs 0) (vT s.k x 16).gone),put:=gonP (rn (vT s.k x 16) 16) (vT s.k x 16).gone}:=by have:=NG (jW (vT s.k x 16));unfold endT;rw[<-q4];exact this
 rw[hz];generalize vT s.k x 16=z at *
 have N:∀p,p∈z.gone->p≠0->ow p=some (33,0):=w.gn;have C:∀i b,vsl i b->z.pf i b≠0->z.pf i b∉z.gone:=fun i b X D e=>by have d:=w.blk i b X D;rw[N _ e D]at d;injection d with d;injection d with d;unfold vsl at X;omega
 have q:∀i b,i<32->z.pf i b=x.pf i b:=fun i b m=>by unfold Tx.pf;rw[ze m,ze m,K]
 refine⟨⟨_,E⟩,K,q5,fun a A=>⟨(U a A).1,(zb (by omega)).trans (U a A).2⟩,fun i b m D=>?_,fun j c l=>?_,fun j c l=>⟨R j l,?_⟩,?_⟩
 .have d:=C i b (zt m) (by rw[q i b m];exact D);rw[q i b m]at d;show getZ (gonP _ _) _=_;rw[Zr,zb d,Q _ fun j c _ e=>f.ndBlk m c ((q i b m).trans e.symm),q3]
 .have d:z.fo.nd 0 j∉z.gone:=C 32 j (zu ⟨rfl,c⟩) (f.nz c);show getZ (gonP _ _) (z.fo.nd 0 j)=_;rw[Zr,zb d,Y j c ((g j).trans l),L]
 .show getZ (gonP _ _) _=_;have H:z.fo.nd 0 j=x.fo.nd 0 j:=R j l;rw[Zr,<-H,Q _ fun j' M B e=>?_,f.np j c,ite_self];have:=f.ndInj M c e;subst this;rw[g,l]at B;cases B
 .have S:=Sx E.rise (T.flatMap (fun i=>(List.range 8).map (z.pf i))++((List.range 16).filter (sA x)).map (z.fo.nd 0)) fun y W=>?_
  .have l:=Om x;rw[zl,flat8,yw]at S;exact zr S (by omega)
  .have r:=LI W;have J:y.1∉z.gone:=fun e=>(by have G:=mJ E.rise (show (y.1,y.2)∈_ from W);rw[Zr,ze e]at G;cases G);rw[yv];obtain⟨d,_,G⟩:=V.pk y r;obtain⟨⟨i,b⟩,A⟩:=ve.1 d;have u:=w.sl y.1 i b A;have F:=G i b A;rcases Z y r with P|⟨j,P,h7,h8⟩
   .have h9:∀j,j<16->y.1≠z.fo.nd 0 j:=fun j c e=>(by have t:=mJ w.rise (show (y.1,y.2)∈z.put from P);rw[e,f.np j c]at t;cases t);rcases u with⟨u,v⟩|u
    .rcases F with⟨F,I⟩|F
     .exact zt (wU.2 ⟨i,F,zV.2 ⟨b,yT.2 I,v⟩⟩)
     .unfold vsl at u;have o:i=32/\b<16:=(by omega);obtain⟨rfl,o⟩:=o;exact yb v.symm (h9 b o)
    .exact yb u.2.2 J
   .exact zu (zV.2 ⟨j,vt.2 ⟨yT.2 P,by rw[<-g];exact h7⟩,h8.symm⟩)
end
section
variable {s : Fs} {c : Nat} {A : Nat->AN}
theorem S5 {l:List Pn} (h:X∈l):∃i,i<l.length/\l.getD i zN=X:=by obtain⟨i,a,rfl⟩:=uA.1 h;exact⟨i,a,by rw[zh,zf a];rfl⟩
theorem TI.mem (h:TI x s T) (c:X∈x.nodes):∃i,i<32/\x.nodes.getD i zN=X:=by obtain⟨i,b,a⟩:=S5 c;exact⟨i,by rw[<-h.len];exact b,a⟩
theorem fine0 (c:k<=256) (h:∀j,j<16->37<=f.nd 0 j/\f.nd 0 j<(k:Int)):na f 0:=by
 refine⟨LV fun i b=>?_,?_⟩
 .have:=h i b;unfold nf;simp;omega
 .have:=h 0 (by omega);unfold badT vN;have a:(f.nd 0 0==0)=false:=by simp;omega
  rw[a];rfl
theorem TV.fines {A':Nat->AN} (h:TV x s n T A') (v:(vT s.k x 16).full=false):(∀a,a<4->na (endT s.k x).fo a)/\∀j,j<16->37<=(endT s.k x).fo.nd 0 j/\(endT s.k x).fo.nd 0 j<(s.k:Int):=by
 obtain⟨⟨t,c⟩,u,q,d,p⟩:=h.ends v;have f:=h.ti.k256;have e:∀j,j<16->37<=(endT s.k x).fo.nd 0 j/\(endT s.k x).fo.nd 0 j<(s.k:Int):=fun j b=>by have l:=c.nz j b;have i:=c.rg _ _ (c.blk 32 j (zu ⟨rfl,b⟩) l);have o:(endT s.k x).pf 32 j=(endT s.k x).fo.nd 0 j:=rfl;rw[o]at i;have r:(⟨(endT s.k x).fo,false,256⟩:Ow).fk=256:=rfl;omega
 refine⟨fun a g=>?_,e⟩;by_cases m:a=0
 .subst m;exact fine0 f e
 .exact W3 (d a (by omega)).1 (d a (by omega)).2 (h.ti.fine a (by omega) g)
theorem TV.run {A':Nat->AN} (t:SI s c A) (u:c<=1000) (h:TV x s n T A') (w:n<=100) (v:sf x.rows=0):rN s x:=by
 have m:=h.ti.k256;have k:=h.cap.fk;refine⟨fun X d=>?_,fun X d=>?_,h.ti.dv,by omega,fun i a=>?_,by have:=t.td;omega,by have:=h.cap.p;omega,fun _ f=>?_⟩
 .obtain⟨i,a,rfl⟩:=(t.tv []).ti.mem (x:=tx0 s) d;exact fld8 ((t.tv []).ti.nd i a)
 .obtain⟨i,a,rfl⟩:=h.ti.mem d;exact fld8 (h.ti.nd i a)
 .have:=h.ti.ndPos a;omega
 .have b:=(h.ti.owns 16 zL).2.1 f;have e:=h.ti.fkFull b;refine⟨fun X d=>?_,fun p j=>?_,JX (h.fines f).1,v,fun _=>t.syncOk u⟩
  .obtain⟨i,a,rfl⟩:=h.ti.mem d;exact h.ti.right b a
  .obtain⟨o,g⟩:=h.ti.ex;by_cases l:p=0
   .omega
   .have r:=g.rg _ _ (g.gn p j l);have q:x.ow.fk=x.fake:=rfl;omega
theorem TJ.clear {T':List Nat} (h:TJ pf g o put k T ow):TJ pf g o [] k T' ow:=
 {h with rise:=List.Pairwise.nil,pk:=fun y a=>yb a yE,pd:=fun y a=>yb a yE}
theorem SI.mono (h:SI s c A) {d:Nat} (b:c<=d) (a:d<=2000):SI s d A:={h with sq:=by have:=h.sq;omega,W:=by have:=h.W;omega,cc:=a}
theorem SI.at (h:SI s c A) (e:c<2000) (z:Tx):SI (pj z s) (c+1) A/\(pj z s).k=s.k/\(∀p,p<s.k->p<5\/37<=p->secE (pj z s) p=secE s p)/\((tq z s).length<=30->(uN (pj z s).todo (tq z s)).length<=30):=by
 unfold pj;split
 .refine⟨h.sync e,rfl,fun p a b=>h.syncE a b,fun d=>?_⟩;exact zr (KD _ _) (by show 0+(tq z s).length<=30;omega)
 .exact⟨h.mono (by omega) e,rfl,fun _ _ _=>rfl,fun _=>by omega⟩
theorem TV.done {A':Nat->AN} (hs:SI s c A) (hc:c<2000) (h:TV x s n T A') (hr:sf x.rows=0) (hT:64*T.length+n<=208) (he:endE s x=0):
 SI (endS s x) (c+1) A'/\(endS s x).rows=x.rows/\(endS s x).nodes=x.nodes/\(endS s x).k=s.k/\jc s x=true:=by
 have q:jc s x=true:=by
  unfold endE at he;split at he
  .omega
  .rename_i e;simpa using e
 have U:(vT s.k x 16).full=false:=by
  unfold endE at he;rw[q]at he;simp only[Bool.true_eq_false,ua]at he;split at he
  .omega
  .rename_i e;simpa using e
 obtain⟨⟨ow,o⟩,w,V,e4,Z,e6,e7,e8⟩:=h.ends U;obtain⟨Q,f2⟩:=h.fines U;have hE:endS s x=mn (endT s.k x) s:=by unfold endS;rw[ze he]
 rw[hE];generalize endT s.k x=z at *
 obtain⟨t,B,Y,t4⟩:=hs.at hc z;have J:(tq z s).length<=30:=by have C:=h.cap.d;have e:=iS s (sr z.rows.length z.rows) (dfK s (uC z.fo) z.put 3);have h2:=Gh s (uC z.fo) z.put 3;unfold tq;omega
 have hk:=hs.k1;have D:sf z.rows=0:=by rw[V];exact hr
 have u:=PI z s o.rise;have E:∀p:Nat,37<=p->p<s.k->secE (mn z s) p=(getZ z.put (p:Int)).getD (secE s p):=fun p G M=>by have e:secE (mn z s) p=(getZ (uN (pj z s).todo (tq z s)) (p:Int)).getD (sec (pj z s).dk.N p):=rfl;rw[e,JA _ _ _ u,Rj _ _ (by omega),<-Y p M (zu G)];unfold secE;cases getZ z.put (p:Int)<;>rfl
 have I:(tx0 (mn z s)).pf=z.pf:=rfl;refine⟨⟨fun T'=>?_,D,KN t.rise,t4 J,fun y l=>?_,by show 64<=(pj z s).k;rw[B];exact hs.k0,t.on,t.bn,t.held,t.sq,t.W,t.cc⟩,V,w,B,q⟩
 .have O:TI (tx0 (mn z s)) (mn z s) T':=by
   refine⟨⟨ow,?_⟩,fun i b m H=>?_,?_,fun a e F=>Q a F,fun i m=>?_,fun y l=>yb l yE,fun j _=>rfl⟩
   .have K:(mn z s).k=s.k:=B;rw[K];exact o.clear
   .rw[I]at H;have C:z.pf i b≠0:=(by omega);have e:=o.rg _ _ (o.blk i b (zt m) C);have F:(⟨z.fo,false,256⟩:Ow).fk=256:=rfl;omega
   .show z.nodes.length=32;rw[w];exact h.ti.len
   .show mj (z.nodes.getD i zN);rw[w];exact h.ti.nd i m
  have X:=ZZ (z:=tx0 (mn z s)) (s':=mn z s) h.ti w fun i b m C=>by have S:z.pf i b=x.pf i b:=(by unfold Tx.pf;rw[ze m,ze m,w]);have e:=o.rg _ _ (o.blk i b (zt m) (by rw[S];exact C));rw[S]at e;have F:(⟨z.fo,false,256⟩:Ow).fk=256:=rfl;have R:=E (x.pf i b).toNat (by omega) (by omega);rw[vK (by omega),Z i b m C]at R;unfold secT;rw[vK (by omega)];exact R
  refine⟨O,⟨⟨by show (256:Int)<=256;omega,by show (256:Int)<=256+_;omega⟩,zL,zL,zL⟩,fun j g=>(X j g).1.trans (h.v j g),fun j g b r hr L=>?_⟩;rw[(X j g).2];refine h.z j g b r hr ?_;rw[<-w];exact L
 .show (1<=y.1/\y.1<=4\/37<=y.1)/\y.1<((pj z s).k:Int)/\_;rw[B];have ac:=hs.k0;rcases Jq l with l|l
  .rcases Ri z s l with rfl|⟨i,m,rfl⟩|l
   .exact⟨zt (by show (1:Int)<=4/\(4:Int)<=4;omega),by show (4:Int)<_;omega,O8 D⟩
   .have G:=Nb (f:=z.fo) fun a P=>(Q a P).1;exact⟨zt (by show (1:Int)<=((1+i:Nat):Int)/\((1+i:Nat):Int)<=4;omega),by show ((1+i:Nat):Int)<_;omega,mD (k:=3) G.1 m,gm G.2 i⟩
   .obtain⟨e,_⟩:=o.pk y l;obtain⟨a,P⟩:=ve.1 e;have h2:=o.rg _ _ P;have F:(⟨z.fo,false,256⟩:Ow).fk=256:=rfl;exact⟨zu (by omega),by omega,o.pd y l⟩
  .have:=t.tk y l;rw[B]at this;exact this
end
def uK (a:AN):List En:=if a.k=2 then outD a.D else []
def isTo (z:Int) (e:En):Bool:=decide (e.2=z)
def cntA (A:Nat->AN) (z:Int):Nat:=((List.range 32).map fun i=>(uK (A i)).countP (isTo z)).sum
theorem Z5 (f g:Nat->Nat) (i:Nat) (h:∀j,j≠i->g j=f j):∀n,i<n->((List.range n).map g).sum+f i=((List.range n).map f).sum+g i
 | 0,c=>by omega
 | n+1,c=>by
  rw[vH,yB,yB,List.sum_append,List.sum_append];simp only[yI,un,List.sum_cons,List.sum_nil];by_cases a:i=n
  .subst a;have:(List.range i).map g=(List.range i).map f:=wW fun j b=>h j (by have:=yT.1 b;omega);rw[this];omega
  .have:=Z5 f g i h n (by omega);have:=h n (by omega);omega
theorem WI {A:Nat->AN} (c:i<32) (a:AN) (z:Int):cntA (upA A i a) z+(uK (A i)).countP (isTo z)=cntA A z+(uK a).countP (isTo z):=by have:=Z5 (fun j=>(uK (A j)).countP (isTo z)) (fun j=>(uK (upA A i a j)).countP (isTo z)) i (fun j b=>by unfold upA;rw[zb b]) 32 c;unfold cntA;rw[this];unfold upA;simp
theorem Xu {A:Nat->AN} (d:i<32) (f:e∈uK (A i)):0<cntA A e.2:=by have a:=WI (A:=A) d zAN e.2;have c:0<(uK (A i)).countP (isTo e.2):=List.countP_pos_iff.2 ⟨e,f,by unfold isTo;simp⟩;have b:uK zAN=[]:=rfl;rw[b]at a;simp at a;omega
def entA (A:Nat->AN) (i:Nat) (e:En):Nat->AN:=upA A i {A i with s:=((layD (outD (A i).D++[e])).length:Int),D:=layD (outD (A i).D++[e])}
def leaA (A:Nat->AN) (i:Nat) (name:ByteArray):Nat->AN:=upA A i {A i with s:=((layD (pg (A i).D name)).length:Int),D:=layD (pg (A i).D name)}
def kX (A:Nat->AN) (n:Nat):Nat->AN:=upA A n (if (A n).l=1 then zAN else {A n with l:=(A n).l-1})
structure GI (A:Nat->AN) (δ:Nat->Int):Prop where
 ok:∀i,i<32->(A i).k=2->sI (A i).D=true
 ino:∀i,i<32->∀e∈uK (A i),(A (e.2-1).toNat).k≠0
 cnt:∀n,n<32->(A n).l=(cntA A ((n:Int)+1):Int)+(if n=0 then 1 else 0)+δ n
 pos:∀n,n<32->(A n).k≠0->1<=(A n).l
 zer:∀n,n<32->(A n).k=0->A n=zAN
 root:(A 0).k=2
 dir:∀n,n<32->(A n).k=2->(A n).l=1
section
variable {A : Nat->AN} {δ : Nat->Int} {i : Nat}
theorem GI.right (h:GI A δ) (b:i<32) (a:(A i).k=2):tW (uK (A i))=0:=by unfold uK;rw[ze a];exact (lr (h.ok i b a)).2.1
theorem RU (h:tW l=0) (a:e∈l):1<=e.2/\e.2<=32:=(jo (((rZ l).1 h).2.1 e a)).2
theorem GI.to (h:GI A δ) (c:i<32) (b:e∈uK (A i)):1<=e.2/\e.2<=32:=by
 by_cases a:(A i).k=2
 .exact RU (h.right c a) b
 .unfold uK at b;rw[zb a]at b;cases b
theorem GI.congr (h:GI A δ) {δ':Nat->Int} (b:∀n,n<32->δ' n=δ n):GI A δ':={h with cnt:=fun n a=>by rw[b n a];exact h.cnt n a}
theorem LR (a:AN) (b:a.k=2) (c:tW l=0) (sz:Int):uK {a with s:=sz,D:=layD l}=oY l:=by unfold uK;rw[ze (show ({a with s:=sz,D:=layD l}:AN).k=2 from b)];exact gH c
theorem GI.enter (h:GI A δ) (x:i<32) (w:(A i).k=2) (y:tC (A i).D e=0) (z:(A (e.2-1).toNat).k≠0):GI (entA A i e) (fun n=>δ n-if (n:Int)+1=e.2 then 1 else 0):=by
 have u:=VD (h.ok i x w) y;unfold entA;generalize ((layD (outD (A i).D++[e])).length:Int)=o;have t:=LR (A i) w u o;have r:uK (A i)=outD (A i).D:=ze w;have b:∀j,(upA A i {A i with s:=o,D:=layD (outD (A i).D++[e])} j).k=(A j).k/\(upA A i {A i with s:=o,D:=layD (outD (A i).D++[e])} j).l=(A j).l:=fun j=>by
  unfold upA;split
  .rename_i m;subst m;exact⟨rfl,rfl⟩
  .exact⟨rfl,rfl⟩
 refine⟨fun j m q=>?_,fun j m f g=>?_,fun n c=>?_,fun n c a=>?_,fun n c a=>?_,by rw[(b 0).1];exact h.root,fun n c a=>?_⟩
 .unfold upA;split
  .exact Y7 u
  .exact h.ok j m ((b j).1.symm.trans q)
 .rw[(b _).1];unfold upA at g;split at g
  .rw[t]at g;have:=(mx _).mem_iff.1 g;rcases yv.1 this with d|d
   .exact h.ino i x f (by rw[r];exact d)
   .rw[xw]at d;subst d;exact z
  .exact h.ino j m f g
 .rw[(b n).2,h.cnt n c];have d:=WI (A:=A) x {A i with s:=o,D:=layD (outD (A i).D++[e])} ((n:Int)+1);rw[t,(mx _).countP_eq,List.countP_append,r]at d;have v:[e].countP (isTo ((n:Int)+1))=if (n:Int)+1=e.2 then 1 else 0:=by
   unfold isTo;by_cases p:(n:Int)+1=e.2
   .rw[ze p];simp[p]
   .rw[zb p];simp[yF p]
  rw[v]at d;split at d<;>split<;>omega
 .rw[(b n).1]at a;rw[(b n).2];exact h.pos n c a
 .rw[(b n).1]at a;unfold upA;rw[zb (by rintro rfl;rw[w]at a;cases a)];exact h.zer n c a
 .rw[(b n).1]at a;rw[(b n).2];exact h.dir n c a
theorem RN (h:tW l=0) (g:e∈l):l.Perm (e::l.filter fun y=>decide (e.1≠y.1)):=by
 have a:=((rZ l).1 h).2.2;clear h
 induction l with
 | nil=>cases g
 | cons y l d=>
  rw[yI,vY]at a;rcases yN.1 g with rfl|g
  .rw[vy,zb (by simp)];rw[uM.2 fun z f=>by simp only[ne_eq,decide_not,Bool.not_eq_eq_eq_not,Bool.not_true,zJ];intro c;exact a.1 (c▸zV.2 ⟨z,f,rfl⟩)]
  .have b:e.1≠y.1:=fun c=>a.1 (c▸zV.2 ⟨e,g,rfl⟩);rw[vy,ze (by simpa using b)];exact ((d g a.2).cons y).trans (List.Perm.swap ..)
theorem KE (b:tW l=0) (p:En->Bool):tW (l.filter p)=0:=by rw[rZ]at b ⊢;refine⟨zr (vd _ _) b.1,fun x a=>b.2.1 x (vt.1 a).1,?_⟩;exact List.Nodup.sublist (List.Sublist.map _ List.filter_sublist) b.2.2
theorem GI.leave (h:GI A δ) (z:i<32) (y:(A i).k=2) (B:e∈outD (A i).D):GI (leaA A i e.1) (fun n=>δ n+if (n:Int)+1=e.2 then 1 else 0):=by
 have r:uK (A i)=outD (A i).D:=ze y;have d:=h.right z y;rw[r]at d;have v:tW (pg (A i).D e.1)=0:=KE d _;unfold leaA;generalize ((layD (pg (A i).D e.1)).length:Int)=p;have u:=LR (A i) y v p;have b:∀j,(upA A i {A i with s:=p,D:=layD (pg (A i).D e.1)} j).k=(A j).k/\(upA A i {A i with s:=p,D:=layD (pg (A i).D e.1)} j).l=(A j).l:=fun j=>by
  unfold upA;split
  .rename_i m;subst m;exact⟨rfl,rfl⟩
  .exact⟨rfl,rfl⟩
 refine⟨fun j m t=>?_,fun j m f g=>?_,fun n c=>?_,fun n c a=>?_,fun n c a=>?_,by rw[(b 0).1];exact h.root,fun n c a=>?_⟩
 .unfold upA;split
  .exact Y7 v
  .exact h.ok j m ((b j).1.symm.trans t)
 .rw[(b _).1];unfold upA at g;split at g
  .rw[u]at g;exact h.ino i z f (by rw[r];exact (vt.1 ((mx _).mem_iff.1 g)).1)
  .exact h.ino j m f g
 .rw[(b n).2,h.cnt n c];have o:=WI (A:=A) z {A i with s:=p,D:=layD (pg (A i).D e.1)} ((n:Int)+1);have x:=(RN d B).countP_eq (isTo ((n:Int)+1));rw[u,(mx _).countP_eq,r,x,List.countP_cons]at o;have w:(if isTo ((n:Int)+1) e=true then 1 else 0)=if (n:Int)+1=e.2 then 1 else 0:=by
   unfold isTo;by_cases q:(n:Int)+1=e.2
   .rw[ze q];simp[q]
   .rw[zb q];simp[yF q]
  rw[w]at o;unfold pg at o ⊢;split at o<;>split<;>omega
 .rw[(b n).1]at a;rw[(b n).2];exact h.pos n c a
 .rw[(b n).1]at a;unfold upA;rw[zb (by rintro rfl;rw[y]at a;cases a)];exact h.zer n c a
 .rw[(b n).1]at a;rw[(b n).2];exact h.dir n c a
theorem GI.set (h:GI A δ) (v:i<32) (a:AN) (s:a.k≠0) (t:uK a=uK (A i)) (u:a.k=2->a.l=1/\sI a.D=true) (w:1<=a.l) (x:i=0->a.k=2):
 GI (upA A i a) (fun n=>δ n+if n=i then a.l-(A i).l else 0):=by
 have r:∀z,cntA (upA A i a) z=cntA A z:=fun z=>by have:=WI (A:=A) v a z;rw[t]at this;omega
 have o:∀j,uK (upA A i a j)=uK (A j):=fun j=>by
  unfold upA;split
  .rename_i c;rw[c];exact t
  .rfl
 refine⟨fun j c e=>?_,fun j c f p=>?_,fun n d=>?_,fun n d b=>?_,fun n d b=>?_,?_,fun n d b=>?_⟩
 .unfold upA at e ⊢;split
  .rename_i c;rw[ze c]at e;exact (u e).2
  .rename_i m;rw[zb m]at e;exact h.ok j c e
 .rw[o]at p;have q:=h.ino j c f p;unfold upA;split
  .exact s
  .exact q
 .rw[r];have q:=h.cnt n d;unfold upA;by_cases g:n=i
  .rw[ze g,ze g];subst g;omega
  .rw[zb g,zb g];omega
 .unfold upA at b ⊢;split
  .exact w
  .rename_i c;rw[zb c]at b;exact h.pos n d b
 .unfold upA at b ⊢;split at b
  .exact yb b s
  .rename_i c;rw[zb c];exact h.zer n d b
 .unfold upA;split
  .rename_i c;exact x c.symm
  .exact h.root
 .unfold upA at b ⊢;split
  .rename_i c;rw[ze c]at b;exact (u b).1
  .rename_i c;rw[zb c]at b;exact h.dir n d b
theorem GI.gone (h:GI A δ) (w:i<32) (v:i≠0) (y:(A i).l=δ i) (x:uK (A i)=[]):GI (upA A i zAN) (fun n=>δ n-if n=i then (A i).l else 0):=by
 have u:∀z,cntA (upA A i zAN) z=cntA A z:=fun z=>by have:=WI (A:=A) w zAN z;rw[x]at this;have r:uK zAN=[]:=rfl;rw[r]at this;omega
 have o:cntA A ((i:Int)+1)=0:=by have:=h.cnt i w;rw[zb v]at this;omega
 have q:∀j,uK (upA A i zAN j)=uK (A j):=fun j=>by
  unfold upA;split
  .rename_i c;rw[c,x];rfl
  .rfl
 have s:zAN.k≠2:=by decide
 refine⟨fun j c e=>?_,fun j c f m=>?_,fun n b=>?_,fun n b a=>?_,fun n b a=>?_,?_,fun n b a=>?_⟩
 .unfold upA at e ⊢;split at e
  .exact yb e s
  .rename_i g;rw[zb g];exact h.ok j c e
 .rw[q]at m;have p:=h.ino j c f m;unfold upA;split
  .rename_i g;have r:=h.to c m;have t:=Xu c m;rw[show f.2=(i:Int)+1 by omega,o]at t;omega
  .exact p
 .rw[u];have p:=h.cnt n b;unfold upA;by_cases d:n=i
  .rw[ze d,ze d];subst d;rw[zb v]at p ⊢;show (0:Int)=_;omega
  .rw[zb d,zb d];omega
 .unfold upA at a ⊢;split at a
  .exact yb rfl a
  .rename_i c;rw[zb c];exact h.pos n b a
 .unfold upA at a ⊢;split
  .rfl
  .rename_i c;rw[zb c]at a;exact h.zer n b a
 .unfold upA;rw[zb (yF v)];exact h.root
 .unfold upA at a ⊢;split at a
  .exact yb a s
  .rename_i c;rw[zb c];exact h.dir n b a
end
