import Derived.Test.YtmanoiagchpelaaGreatDoorKA36
import Derived.Test.YtmanoiagchpelaaGreatDoorKA38
set_option maxHeartbeats 0
set_option linter.all false
set_option maxRecDepth 100000
namespace Go.Proofs.YtmanoiagchpelaaGreatDoor
open Go.RowKit
variable {Dt l:List Int} {b:ByteArray} {e:En} {m p:Nat} {o:Option Nat} {u:Int} {z:Tx} {δ:Nat->Int}
def movB (A:Nat->AN) (i j:Nat) (a b:ByteArray):Option Nat->Nat->AN
 | none=>leaA A i a
 | some m=>nf (leaA (leaA A i a) j b) m
def movA (A:Nat->AN) (i j n:Nat) (a b:ByteArray) (o:Option Nat):Nat->AN:=
 let B:=entA (movB A i j a b o) j (b,n+1)
 if (A n).k=2 then upA B n {B n with up:=j+1} else B
section
variable {x : Tx} {s : Fs} {n c i j : Nat} {A : Nat->AN} {T : List Nat} {δ : Nat->Int}
theorem jm : ∀{l:List En},(l.map (·.1)).Nodup->∀{x y},x∈l->y∈l->x.1=y.1->x=y
 | [],_,_,_,h,_,_=>by cases h
 | z::l,c,x,y,f,e,d=>by
  rw[yF,vJ]at c;rcases yD.1 f with b|b<;>rcases yD.1 e with a|a
  .rw[b,a]
  .exact zY (by rw[<-b,d];exact zU.2 ⟨y,a,rfl⟩) c.1
  .exact zY (by rw[<-a,<-d];exact zU.2 ⟨x,b,rfl⟩) c.1
  .exact jm c.2 b a d
theorem mK (A) (i) (a) (j):(leaA A i a j).k=(A j).k/\(leaA A i a j).l=(A j).l:=by
 unfold leaA upA;split
 .rename_i h;subst h;exact⟨rfl,rfl⟩
 .exact⟨rfl,rfl⟩
theorem Sv (A) (i) (e) (j):(entA A i e j).k=(A j).k/\(entA A i e j).l=(A j).l:=by
 unfold entA upA;split
 .rename_i h;subst h;exact⟨rfl,rfl⟩
 .exact⟨rfl,rfl⟩
theorem jQ (A) {j:Nat} (h:j≠m):nf A m j=A j:=om _ _ h
theorem iZ (g:GI A δ) (h:i<32) (e:(A i).k=2) (a) (f):f∈vq (leaA A i a i)↔f∈vq (A i)/\a≠f.1:=by have c:=g.right h e;have d:vq (A i)=outD (A i).D:=ze e;rw[d]at c ⊢;have b:sf (pw (A i).D a)=0:=K8 c _;unfold leaA;rw[lw,Ug (A i) e b,(nA _).mem_iff];unfold pw;rw[vu];simp
theorem SI.moveK (hs:SI s c A) (g:GI A fun _=>0) (hi:i<32) (Y:(A i).k=2) (Z:j<32) (aa:(A j).k=2) (he:e∈outD (A i).D) (hn:n+1=e.2)  
 (af:o≠some n) (ho:∀m,o=some m->∃f∈outD (A j).D,f.1=b/\m+1=f.2) (ag:∀m,o=some m->((A m).k=2↔(A n).k=2)/\¬((A n).k=2/\0<(A m).s)):
 (∀m,o=some m->lS ((tx0 s).leaX s i e.1)/\DirT ((tx0 s).leaX s i e.1) s j (((tx0 s).leaX s i e.1).nodes.getD j zN) (((tx0 s).leaX s i e.1).dirD s j)/\ZG (((tx0 s).leaX s i e.1).leaX s j b) s m) /\
  TV (movT s i j e.1 b o) s 32 [i,j] (movB A i j e.1 b o)/\GI (movB A i j e.1 b o) (fun m=>if m=n then 1 else 0)/\(movB A i j e.1 b o j).k=2/\(movB A i j e.1 b o n).k=(A n).k:=by
 have L:=hs.tv [i,j];have l:e∈vq (A i):=by unfold vq;rw[ze Y];exact he
 have R:=g.to hi l;have K:n<32:=by omega
 have N:(A n).k≠0:=by have:=g.ino i hi e l;rw[show (e.2-1).toNat=n by omega]at this;exact this
 have B:=L.lea g hi (by simp) Y he;have C:=(g.leave hi Y he).congr (δ':=fun m=>if m=n then 1 else 0) fun m _=>by
  by_cases h:m=n
  .rw[ze h,ze (by omega)];rfl
  .rw[zb h,zb (by omega)];rfl
 have a:(leaA A i e.1 j).k=2:=by rw[(mK A i e.1 j).1];exact aa
 cases o with
 | none=>exact⟨fun m V=>(by cases V),B.mono (by omega),C,a,(mK A i e.1 n).1⟩
 | some m=>
  obtain⟨f,U,rfl,E⟩:=ho m rfl;obtain⟨J,I⟩:=ag m rfl;have u:m≠n:=fun z=>af (by rw[z]);have d:f∈vq (A j):=by unfold vq;rw[ze aa];exact U
  have W:=g.to Z d;have q:m<32:=by omega
  have T:=g.noRoot rfl Z d;have F:(A m).k≠0:=by have:=g.ino j Z f d;rw[show (f.2-1).toNat=m by omega]at this;exact this
  have t:(A m).k=2->vq (A m)=[]:=fun h=>Uf (L.len hs.sec q) fun z=>I ⟨J.1 h,z.2⟩;have H:m≠i:=by rintro rfl;rw[t Y]at l;cases l
  have v:m≠j:=by rintro rfl;rw[t aa]at d;cases d
  have y:f∈outD (leaA A i e.1 j).D:=by
   have G:f∈vq (leaA A i e.1 j):=by
    by_cases w:j=i
    .subst w;refine (iZ g hi Y _ _).2 ⟨d,fun z=>u ?_⟩;have Q:=(rO _).1 (g.right hi Y);have:=jm Q.2.2 l d z;subst this;omega
    .unfold leaA;rw[om _ _ w];exact d
   unfold vq at G;rw[ze a]at G;exact G
  have O:=B.lea C Z (by simp) a y;have S:=C.leave Z a y;have x:leaA (leaA A i e.1) j f.1 m=A m:=by unfold leaA;rw[om _ _ v,om _ _ H]
  obtain⟨M,P,X⟩:=O.drop S q (by omega) (by show (if m=n then (1:Int) else 0)+(if (m:Int)+1=f.2 then 1 else 0)=1;rw[zb u,ze E];rfl) (by rw[x];exact F) (fun h=>by rw[x]at h ⊢;exact t h) hs.held (by omega);refine⟨fun p r=>?_,P,X.congr fun p _=>?_,?_,?_⟩
  .injection r with r;subst r;exact⟨B.room (by omega),B.dirT hs.sec hs.k0 (by omega) Z (C.ok j Z a),M⟩
  .show (if p=n then (1:Int) else 0)=(if p=n then 1 else 0)+(if (p:Int)+1=f.2 then 1 else 0)-if p=m then 1 else 0
   by_cases h:p=m
   .rw[ze h,ze (show (p:Int)+1=f.2 by omega)];omega
   .rw[zb h,zb (show ¬(p:Int)+1=f.2 by omega)];omega
  .show (nf (leaA (leaA A i e.1) j f.1) m j).k=2;rw[jQ _ (yA v),(mK _ _ _ _).1];exact a
  .show (nf (leaA (leaA A i e.1) j f.1) m n).k=(A n).k;rw[jQ _ (yA u),(mK _ _ _ _).1,(mK _ _ _ _).1]
theorem SI.moveG (q:SI s c A) (g:GI A fun _=>0) (r:i<32) (d:(A i).k=2) (t:j<32) (h:(A j).k=2) (u:e∈outD (A i).D) (v:n+1=e.2)  
 (l:o≠some n) (w:∀m,o=some m->∃f∈outD (A j).D,f.1=b/\m+1=f.2) (p:∀m,o=some m->((A m).k=2↔(A n).k=2)/\¬((A n).k=2/\0<(A m).s)):
 GI (movB A i j e.1 b o) (fun m=>if m=n then 1 else 0)/\(movB A i j e.1 b o j).k=2:=by
 obtain⟨_,_,a,b,_⟩:=q.moveK g r d t h u v l w p;exact⟨a,b⟩
theorem SI.move (hs:SI s c A) (g:GI A fun _=>0) (hc:c<=1000) (hi:i<32) (ad:(A i).k=2) (hj:j<32) (af:(A j).k=2) (he:e∈outD (A i).D) (hn:n+1=e.2)  
 (ag:o≠some n) (ho:∀m,o=some m->∃f∈outD (A j).D,f.1=b/\m+1=f.2) (am:rW b=true) (ah:∀m,o=some m->((A m).k=2↔(A n).k=2)/\¬((A n).k=2/\0<(A m).s)):
 kM s i j n e.1 b o/\(movT s i j e.1 b o).dirD s j=(movB A i j e.1 b o j).D/\(tc (movB A i j e.1 b o j).D (b,n+1)=0->TV (movX s i j n e.1 b o) s 48 [i,j] (movA A i j n e.1 b o)/\GI (movA A i j n e.1 b o) fun _=>0):=by
 have z:e∈vq (A i):=by unfold vq;rw[ze ad];exact he
 have X:=g.to hi z;have a:n<32:=by omega
 have q:(A n).k≠0:=by have:=g.ino i hi e z;rw[show (e.2-1).toNat=n by omega]at this;exact this
 obtain⟨S,C,O,M,R⟩:=hs.moveK g hi ad hj af he hn ag ho ah;have Q:=(C.at hj).2.2.2.2.2.2.2;have w:tc (movB A i j e.1 b o j).D (b,n+1)=0->TV (movY s i j n e.1 b o) s 40 [i,j] (entA (movB A i j e.1 b o) j (b,n+1))/\TV (movX s i j n e.1 b o) s 48 [i,j] (movA A i j n e.1 b o)/\GI (movA A i j n e.1 b o) fun _=>0:=fun v=>by
  have t:=C.ent O hj (by simp) M v;have I:(((b,n+1):En).2-1).toNat=n:=by show ((n:Int)+1-1).toNat=n;omega
  have B:=(O.enter hj M v (by rw[I,R];exact q)).congr (δ':=fun _=>0) fun m _=>by
   show (0:Int)=(if m=n then 1 else 0)-if (m:Int)+1=(n:Int)+1 then 1 else 0
   by_cases h:m=n
   .rw[ze h,ze (by omega)];rfl
   .rw[zb h,zb (by omega)];rfl
  have J:=(hs.A_at a).1;have p:(entA (movB A i j e.1 b o) j (b,n+1) n).k=(A n).k:=by rw[(Sv _ _ _ _).1];exact R
  refine⟨t,?_⟩;unfold movX movA;rw[J];by_cases r:(A n).k=2
  .rw[ze r];simp only[r,vl];have E:=t.fld a (by rw[p];exact q);have x:=t.at a;have G:((movY s i j n e.1 b o).nodes.getD n zN).k=2:=x.1.trans (p.trans r);have F:=t.set a (N:=upP ((movY s i j n e.1 b o).nodes.getD n zN) j) rfl rfl (zu ⟨E.1,E.2.1,E.2.2.1,fun _=>(by show 1<=(j:Int)+1/\(j:Int)+1<=32;omega),fun h=>zY G h,E.2.2.2.2.2⟩);have e1:⟨(upP ((movY s i j n e.1 b o).nodes.getD n zN) j).k,(upP ((movY s i j n e.1 b o).nodes.getD n zN) j).m,(upP ((movY s i j n e.1 b o).nodes.getD n zN) j).u,(upP ((movY s i j n e.1 b o).nodes.getD n zN) j).g,(upP ((movY s i j n e.1 b o).nodes.getD n zN) j).s,(upP ((movY s i j n e.1 b o).nodes.getD n zN) j).l,(upP ((movY s i j n e.1 b o).nodes.getD n zN) j).up,(entA (movB A i j e.1 b o) j (b,(n:Int)+1) n).D⟩={entA (movB A i j e.1 b o) j (b,n+1) n with up:=j+1}:=(by obtain⟨T,Y,W,Z,U,V,b7,_⟩:=x;unfold upP;simp only;rw[<-T,<-Y,<-W,<-Z,<-U,<-V];rfl);rw[e1]at F;refine⟨F,(B.set a {entA (movB A i j e.1 b o) j (b,(n:Int)+1) n with up:=(j:Int)+1} (by show (entA _ _ _ n).k≠0;rw[p];exact q) rfl (fun _=>⟨B.dir n a (p.trans r),B.ok n a (p.trans r)⟩) (B.pos n a (by rw[p];exact q)) (fun _=>p.trans r)).congr fun m _=>?_⟩;show (0:Int)=0+if m=n then (entA (movB A i j e.1 b o) j (b,(n:Int)+1) n).l-(entA (movB A i j e.1 b o) j (b,(n:Int)+1) n).l else 0
   split<;>omega
  .rw[zb r];simp only[r,vX];exact⟨t.mono (by omega),B⟩
 refine⟨⟨S,C.room (by omega),C.dirT hs.sec hs.k0 (by omega) hj (O.ok j hj M),fun v=>?_⟩,Q,fun v=>(w v).2⟩;rw[Q]at v;obtain⟨t,F,_⟩:=w v;refine⟨?_,F.run hs hc (by omega) ?_⟩
 .have:=t.cap.d;omega
 .have K:∀(y:Tx) (i) (P),(y.leaX s i P).rows=y.rows:=fun y i P=>by unfold Tx.leaX Tx.fillX Tx.wow;split<;>rfl
  have H:(movT s i j e.1 b o).rows=s.rows:=by
   cases o with
   | none=>exact K _ _ _
   | some m=>
    show ((((tx0 s).leaX s i e.1).leaX s j b).dropX s m).rows=_;have:∀y:Tx,(y.dropX s m).rows=y.rows:=fun y=>(by unfold Tx.dropX Tx.freeX Tx.setX;split<;>rfl);rw[this,K,K];rfl
  have L:(movX s i j n e.1 b o).rows=(movT s i j e.1 b o).rows:=by unfold movX movY;split<;>rfl
  rw[L,H];exact hs.rows
end
def wrtB (D Dt:List Int) (p:Nat):List Int:=(List.range (max D.length (p+Dt.length))).map fun q=>if p<=q/\q<p+Dt.length then Dt.getD (q-p) 0 else D.getD q 0
theorem UE (old Dt) (p k) (f:old.length=64):∀n,n<=64->(rp old Dt p k n).length=64/\∀r,r<64->(rp old Dt p k n)[r]?=if r<n/\p<=64*k+r/\64*k+r<p+Dt.length then some (Dt.getD (64*k+r-p) 0) else old[r]?
 | 0,_=>⟨f,fun r _=>by rw[zb (by omega)];rfl⟩
 | n+1,e=>by
  obtain⟨c,b⟩:=UE old Dt p k f n (by omega);unfold rp;split
  .refine⟨by rw[xK];exact c,fun r a=>?_⟩;rw[sP];by_cases d:n=r
   .subst d;rw[ze rfl,ze (by omega),ze (by omega)]
   .rw[zb d,b r a]
    grind
  .refine⟨c,fun r a=>?_⟩;rw[b r a]
   grind
theorem Ng (h:∀(r:Nat) (v),l[r]?=some v->0<=v/\v<=255):un l:=fun x b=>by obtain⟨r,a⟩:=vg.1 b;exact h r x a
theorem MJ (h:un l) (q):0<=l.getD q 0/\l.getD q 0<=255:=by
 rw[zi];cases a:l[q]? with
 | none=>exact⟨wU 0,by show (0:Int)<=255;omega⟩
 | some v=>exact h v (xU a)
theorem MN {old:List Int} (p k) (e:old.length=64) (f:un old) (g:un Dt):un (rp old Dt p k 64):=by
 obtain⟨d,b⟩:=UE old Dt p k e 64 zL;refine Ng fun r v a=>?_;have c:r<64:=by
  rcases sk r 64 with h|h
  .exact h
  .rw[yj (by omega)]at a;cases a
 rw[b r c]at a;split at a
 .injection a with a;rw[<-a];exact MJ g _
 .exact f v (xU a)
section
variable {x : Tx} {s : Fs} {n c i : Nat} {A : Nat->AN} {T : List Nat} {δ : Nat->Int}
theorem TV.byte (h:TV x s n T A) (f:jt s) (e:i<32) (q:Nat) (g:q<(A i).s):(A i).D[q]?=(blk x s i (q / 64))[q%64]? :=by have a:=h.at e;have d:=me (h.ti.nd i e);have c:=a.2.2.2.2.1;rw[<-a.2.2.2.2.2.2.2,lX _ _ e,vD (by omega),KS (fun b=>(h.ti.blk_ok f e b).1) _ _ (by omega)]
theorem TV.byteD (h:TV x s n T A) (e:jt s) (d:i<32) (q):(blk x s i (q / 64))[q%64]?=some ((A i).D.getD q 0):=by
 have b:=h.len e d;have c:=(h.ti.blk_ok e d (q / 64)).1;by_cases a:(q:Int)<(A i).s
 .rw[<-h.byte e d q a,zi,zh (by omega)];rfl
 .rw[h.z i d (q / 64) (q%64) (by omega) (by rw[(h.at d).2.2.2.2.1];omega),zi,yj (by omega)];rfl
theorem Yw (h:TI z s T) (e:jt s) (d:i<32) {D:List Int} (g:(D.length)=(z.nodes.getD i zN).s) (f:∀q,q<D.length->(blk z s i (q / 64))[q%64]?=D[q]?):z.dirD s i=D:=by
 have c:=me (h.nd i d);rw[lX _ _ d];apply ww;intro q;by_cases a:q<D.length
 .rw[vD (by omega),KS (fun b=>(h.blk_ok e d b).1) _ _ (by omega),f q a]
 .rw[yj (by rw[zj];omega),yj (by omega)]
theorem TI.writes (h:TI z s T) (E:jt s) (C:i<32) (F:i∈T) (G:un Dt) (p k0) (x0):∀j,k0+j<=(z.nodes.getD i zN).P.length->TI (z.uw i (wrtU s x0 Dt p k0 (z.uy i) j)) s T /\
 (∀i' b',i'<32->blk (z.uw i (wrtU s x0 Dt p k0 (z.uy i) j)) s i' b'=if i'=i/\k0<=b'/\b'<k0+j then rp (blk z s i b') Dt p b' 64 else blk z s i' b')/\(wrtU s x0 Dt p k0 (z.uy i) j).P.length=(z.nodes.getD i zN).P.length /\
 z.fake<=(z.uw i (wrtU s x0 Dt p k0 (z.uy i) j)).fake/\(z.uw i (wrtU s x0 Dt p k0 (z.uy i) j)).fake<=z.fake+j/\(z.uw i (wrtU s x0 Dt p k0 (z.uy i) j)).put.length<=z.put.length+j
 | 0,_=>by unfold wrtU;rw[ZH z i h.len C];exact⟨h,fun i' b' _=>by rw[zb (by omega)],rfl,wU _,by show z.fake<=_;omega,zL⟩
 | j+1,B=>by
  obtain⟨x,f,n,q,o,w⟩:=h.writes E C F G p k0 x0 j (by omega);have A:=fld8 (h.nd i C);have e:rj {x0.wow (wrtU s x0 Dt p k0 (z.uy i) j).ow with put:=(wrtU s x0 Dt p k0 (z.uy i) j).put} s (wrtU s x0 Dt p k0 (z.uy i) j).P (k0+j)=blk z s i (k0+j):=by have d:=f i (k0+j) C;rw[zb (by omega)]at d;rw[<-d];unfold rj blk tT;rw[kD _ _ _ h.len,ze C,ze rfl];rfl
  have c:=h.blk_ok E C (k0+j);obtain⟨k,u,y,v,l,m,r⟩:=x.wr h.len C F (by omega) (b:=k0+j) (by omega) (D:=rp (blk z s i (k0+j)) Dt p (k0+j) 64) ⟨(UE _ Dt p _ c.1 64 zL).1,MN p _ c.1 c.2 G⟩;unfold wrtU;rw[e];have t:(wrtU s x0 Dt p k0 (z.uy i) j).ow.fk<=z.fake+j:=o;have g:(wrtU s x0 Dt p k0 (z.uy i) j).put.length<=z.put.length+j:=w;refine⟨k,fun i' b' a=>(u i' b' a).trans ?_,r.trans n,wS q v,wS l (by omega),zt m (by omega)⟩;rw[f i' b' a]
  grind
theorem Tb (i) (f:i<32) (g:s.nodes.length=32) (p) (Dt):
 wrtT s i (s.nodes.getD i zN) p Dt=((tx0 s).cutX i (max (s.nodes.getD i zN).P.length ((p+Dt.length+63) / 64)) (max (s.nodes.getD i zN).s ((p+Dt.length:Nat)))).uw i
  (wrtU s (tx0 s) Dt p (p / 64) (((tx0 s).cutX i (max (s.nodes.getD i zN).P.length ((p+Dt.length+63) / 64)) (max (s.nodes.getD i zN).s ((p+Dt.length:Nat)))).uy i) ((p+Dt.length-1) / 64+1-p / 64)):=by
 have b:(s.nodes.getD i zN).P.take (max (s.nodes.getD i zN).P.length ((p+Dt.length+63) / 64))=(s.nodes.getD i zN).P:=zv (by omega);have e:(s.nodes.getD i zN).P.drop (max (s.nodes.getD i zN).P.length ((p+Dt.length+63) / 64))=[]:=yP (by omega);have c:max (s.nodes.getD i zN).P.length ((p+Dt.length+63) / 64)-(s.nodes.getD i zN).P.length=(p+Dt.length+63) / 64-(s.nodes.getD i zN).P.length:=by omega
 have d:((tx0 s).cutX i (max (s.nodes.getD i zN).P.length ((p+Dt.length+63) / 64)) (max (s.nodes.getD i zN).s ((p+Dt.length:Nat)))).uy i=⟨(tx0 s).ow,[],(s.nodes.getD i zN).P++List.replicate ((p+Dt.length+63) / 64-(s.nodes.getD i zN).P.length) 0⟩:=by unfold Tx.uy Tx.cutX;have a:(tx0 s).nodes=s.nodes:=rfl;simp only[a,rG,g,f,uC,vl,b,c];rfl
 rw[d];unfold wrtT wrtP wrtY Tx.uw Tx.cutX;have a:(tx0 s).nodes=s.nodes:=rfl;simp only[a,rG,g,f,uC,vl,rS,e,List.reverse_nil,yX];rfl
theorem SI.write (hs:SI s c A) (g:GI A fun _=>0) (hc:c<=1000) (hi:i<32) (hk:(A i).k=1) (hp:p+Dt.length<=512) (h0:0<Dt.length) (hd:un Dt):
 kK s i p Dt/\TV (wrtT s i (s.nodes.getD i zN) p Dt) s 8 [i] (upA A i {A i with s:=((wrtB (A i).D Dt p).length),D:=wrtB (A i).D Dt p})/\GI (upA A i {A i with s:=((wrtB (A i).D Dt p).length),D:=wrtB (A i).D Dt p}) fun _=>0:=by
 have e:=hs.tv [i];have F:s.nodes.length=32:=e.ti.len;have N:=e.fld hi (by rw[hk];decide);have B:=(hs.A_at hi).2.2.2.2.1;have n:=me (e.ti.nd i hi);have U:=fld8 (e.ti.nd i hi);have hD:=e.len hs.sec hi;have u:((s.nodes.getD i zN).P.length)=sg (s.nodes.getD i zN).s:=N.2.2.2.2.2;have m:(wrtB (A i).D Dt p).length=max (A i).D.length (p+Dt.length):=by unfold wrtB;rw[yp,tj]
 have Q:=e.ti.cutX hi (max (s.nodes.getD i zN).P.length ((p+Dt.length+63) / 64)) (max (s.nodes.getD i zN).s ((p+Dt.length:Nat):Int)) (by have h1:(s.nodes.getD i zN).s<=512:=n.2.1;omega) (by have h3:=B;unfold sg at u ⊢;split at u<;>split<;>omega) (e.ne hi (by rw[hk];decide));have C:=jp e.ti.len hi (max (s.nodes.getD i zN).P.length ((p+Dt.length+63) / 64)) (max (s.nodes.getD i zN).s ((p+Dt.length:Nat):Int));have J:((((tx0 s).cutX i (max (s.nodes.getD i zN).P.length ((p+Dt.length+63) / 64)) (max (s.nodes.getD i zN).s ((p+Dt.length:Nat)))).nodes.getD i zN).P).length=max (s.nodes.getD i zN).P.length ((p+Dt.length+63) / 64):=by unfold Tx.cutX;have X:(tx0 s).nodes=s.nodes:=rfl;simp only[X,rG,F,hi,uC,vl,zm,zj,yN];omega
 have I:=Q.writes hs.sec hi (by simp) hd p (p / 64) (tx0 s) ((p+Dt.length-1) / 64+1-p / 64) (by rw[J];omega);rw[J,<-Tb i hi F p Dt]at I;have f:∀j,(wrtT s i (s.nodes.getD i zN) p Dt).nodes.getD j zN=if j=i then wrtP s (s.nodes.getD i zN) p Dt else s.nodes.getD j zN:=fun j=>by unfold wrtT;simp only[rG,F];grind
 obtain⟨G,a2,a3,S,R,Z⟩:=I;have y:∀j b,j<32->blk ((tx0 s).cutX i (max (s.nodes.getD i zN).P.length ((p+Dt.length+63) / 64)) (max (s.nodes.getD i zN).s ((p+Dt.length:Nat)))) s j b=blk (tx0 s) s j b:=fun j b d=>by
  unfold blk;rw[C];simp only;split
  .rename_i hc;have:(tx0 s).pf j b=0:=(by unfold Tx.pf;rw[ze d,hc.1,zi,yj (by show (s.nodes.getD i zN).P.length<=b;omega)];rfl);rw[this];rfl
  .rfl
 have t:∀j b,j<32->∀r,r<64->(blk (wrtT s i (s.nodes.getD i zN) p Dt) s j b)[r]?=if j=i/\p<=64*b+r/\64*b+r<p+Dt.length then some (Dt.getD (64*b+r-p) 0) else (blk (tx0 s) s j b)[r]? :=fun j b d r o=>by
  rw[a2 j b d];by_cases hc:j=i/\p / 64<=b/\b<p / 64+((p+Dt.length-1) / 64+1-p / 64)
  .rw[ze hc,y i b hi,(UE _ Dt p b (e.ti.blk_ok hs.sec hi b).1 64 zL).2 r o,hc.1]
   grind
  .rw[zb hc,y j b d,zb (by omega)]
 have w:((wrtB (A i).D Dt p).length)=max (s.nodes.getD i zN).s ((p+Dt.length:Nat)):=by rw[m,B];omega
 have H:TV (wrtT s i (s.nodes.getD i zN) p Dt) s 8 [i] (upA A i {A i with s:=((wrtB (A i).D Dt p).length),D:=wrtB (A i).D Dt p}):=by
  refine⟨G,⟨⟨?_,?_⟩,ye _,?_,zL⟩,fun j d=>?_,fun j d b r o h=>?_⟩
  .exact S
  .refine wS R ?_;show (256:Int)+(((p+Dt.length-1) / 64+1-p / 64:Nat):Int)<=256+((8:Nat):Int);omega
  .exact zt Z (by show 0+((p+Dt.length-1) / 64+1-p / 64)<=8;omega)
  .unfold upA;by_cases a:j=i
   .subst a;rw[ze rfl];have E:(wrtT s j (s.nodes.getD j zN) p Dt).dirD s j=wrtB (A j).D Dt p:=by
     refine Yw G hs.sec d (by rw[f,ze rfl];exact w) fun q h=>?_;rw[t j _ d _ (sr _ (by omega)),show 64*(q / 64)+q%64=q by omega,e.byteD hs.sec d q];unfold wrtB;rw[xF,ui (by rw[m]at h;exact h)]
     grind
    unfold vw;rw[E,f,ze rfl,w];obtain⟨K,V,O,W,_,M,T,_⟩:=hs.A_at d;unfold wrtP;simp only;rw[K,V,O,W,M,T]
   .rw[zb a,<-e.v j d];unfold vw;rw[VC (x:=tx0 s) d (by rw[f,zb a];rfl) (by rw[f,zb a];rfl) fun b=>by
     apply ww;intro r;by_cases o:r<64
     .rw[t j b d r o,zb (by omega)]
     .rw[yj (by rw[(G.blk_ok hs.sec d b).1];omega),yj (by rw[(e.ti.blk_ok hs.sec d b).1];omega)],f,zb a]
    rfl
  .rw[f]at h;rw[t j b d r o];by_cases a:j=i
   .rw[ze a]at h;have Y:max (s.nodes.getD i zN).s ((p+Dt.length:Nat))<=((64*b+r:Nat)):=h;rw[zb (by omega)];exact e.z j d b r o (by rw[a];show (s.nodes.getD i zN).s<=_;omega)
   .rw[zb a]at h;rw[zb (by omega)];exact e.z j d b r o h
 have gi:=(g.set hi {A i with s:=((wrtB (A i).D Dt p).length:Int),D:=wrtB (A i).D Dt p} (by show (A i).k≠0;rw[hk];decide) (by unfold vq;rw[zb (by show (A i).k≠2;rw[hk];decide),zb (by rw[hk];decide)]) (fun L=>zY (hk.symm.trans L) (by decide)) (g.pos i hi (by rw[hk];decide)) (fun h0=>by subst h0;exact zY (hk.symm.trans g.root) (by decide))).congr (δ':=fun _=>0) fun j _=>by
  show (0:Int)=0+if j=i then (A i).l-(A i).l else 0
  split<;>omega
 exact⟨⟨hs.pts hi,U,⟨n.1,n.2.1⟩,H.run hs hc (by omega) hs.rows⟩,H,gi⟩
end
def cutB (D:List Int) (sz:Nat):List Int:=(List.range sz).map fun q=>D.getD q 0
section
variable {x : Tx} {s : Fs} {n c i : Nat} {A : Nat->AN} {T : List Nat} {δ : Nat->Int}
theorem TI.reGone (h:TI x s T) {g:List Int} (q:∀p,p≠0->(p∈g↔p∈x.gone)):TI {x with gone:=g} s T:=by
 obtain⟨⟨o,c⟩,d,e,k,n,j,l⟩:=h;refine⟨⟨o,{c with gn:=fun p a f=>c.gn p ((q p f).1 a) f,sl:=fun p i b a=>?_}⟩,d,e,k,n,j,l⟩;rcases c.sl p i b a with h|⟨m,d,e⟩
 .exact zr h
 .have:=c.lt a;exact zu ⟨m,d,(q p (by omega)).2 e⟩
theorem To (l) (p):p∈srtI l↔p∈l:=(sa _ _).mem_iff
theorem OA (P) (K) (p) (a:p≠0):p∈srtI (sc P K)↔p∈([]++(P.drop K).reverse):=by rw[To];unfold sc nzF;simp[a]
theorem SC (i) (e:i<32) (f:s.nodes.length=32) (sz:Nat):
 cutT s i (s.nodes.getD i zN) sz={((tx0 s).cutX i (blkN sz) sz).uw i (if (sy (s.nodes.getD i zN).P (blkN sz) (s.nodes.getD i zN).s sz).toNat=0 then ((tx0 s).cutX i (blkN sz) sz).uy i else
  wrU s.k (((tx0 s).cutX i (blkN sz) sz).uy i) (blkN sz-1) ((blk ((tx0 s).cutX i (blkN sz) sz) s i (blkN sz-1)).take (sy (s.nodes.getD i zN).P (blkN sz) (s.nodes.getD i zN).s sz).toNat++List.replicate (64-(sy (s.nodes.getD i zN).P (blkN sz) (s.nodes.getD i zN).s sz).toNat) 0)) with gone:=srtI (sc (s.nodes.getD i zN).P (blkN sz))}:=by
 have a:(tx0 s).nodes=s.nodes:=rfl;have c:((tx0 s).cutX i (blkN sz) sz).uy i=⟨(tx0 s).ow,[],resP (s.nodes.getD i zN).P (blkN sz)⟩:=by unfold Tx.uy Tx.cutX resP;simp only[a,rG,f,e,uC,vl];rfl
 have d:blk ((tx0 s).cutX i (blkN sz) sz) s i (blkN sz-1)=rj (tx0 s) s (resP (s.nodes.getD i zN).P (blkN sz)) (blkN sz-1):=by
  have b:((tx0 s).cutX i (blkN sz) sz).pf i (blkN sz-1)=(resP (s.nodes.getD i zN).P (blkN sz)).getD (blkN sz-1) 0:=by unfold Tx.pf;rw[ze e];unfold Tx.cutX resP;simp only[a,rG,f,e,uC,vl]
  unfold blk rj tT;rw[b];rfl
 rw[c,d];unfold cutT cutY Tx.uw Tx.cutX;simp only[a,rG,f,e,uC,vl,rS];rfl
theorem SI.cut (
 hs:SI s c A) (g:GI A fun _=>0) (hc:c<=1000) (hi:i<32) (hk:(A i).k=1) {sz:Nat} (hz:sz<=512):
 iC s i sz/\TV (cutT s i (s.nodes.getD i zN) sz) s 8 [i] (upA A i {A i with s:=((cutB (A i).D sz).length),D:=cutB (A i).D sz})/\GI (upA A i {A i with s:=((cutB (A i).D sz).length),D:=cutB (A i).D sz}) fun _=>0:=by
 have m:=hs.tv [i];have O:s.nodes.length=32:=m.ti.len;have h8:=fld8 (m.ti.nd i hi);have o:(cutB (A i).D sz).length=sz:=by unfold cutB;rw[yp,tj]
 have t:(blkN sz)=sg sz:=by unfold blkN sg;split<;>omega
 have hK:blkN sz<=8:=by unfold sg at t;split at t<;>omega
 have ar:sz<=64*blkN sz/\64*blkN sz<sz+64:=by unfold sg at t;split at t<;>omega
 have B:=m.ti.cutX hi (blkN sz) (sz:Int) (by omega) t (m.ne hi (by rw[hk];decide));have R:=jp m.ti.len hi (blkN sz) (sz:Int);have hn:(tx0 s).nodes=s.nodes:=rfl;have hP:((((tx0 s).cutX i (blkN sz) sz).nodes.getD i zN).P).length=blkN sz:=by unfold Tx.cutX;simp only[hn,rG,O,hi,uC,vl,zm,zj,yN];omega
 have H:∀p,p≠0->(p∈srtI (sc (s.nodes.getD i zN).P (blkN sz))↔p∈((tx0 s).cutX i (blkN sz) sz).gone):=fun p h=>OA _ _ p h;have ae:(srtI (sc (s.nodes.getD i zN).P (blkN sz))).length<=8:=by have I:(srtI (sc (s.nodes.getD i zN).P (blkN sz))).length=(sc (s.nodes.getD i zN).P (blkN sz)).length:=(sa _ _).length_eq;have J:(sc (s.nodes.getD i zN).P (blkN sz)).length<=((s.nodes.getD i zN).P.drop (blkN sz)).reverse.length:=vh _ _;rw[uh,yB]at J;have:(s.nodes.getD i zN).P.length<=8:=h8;omega
 have F:∀j b,j<32->blk ((tx0 s).cutX i (blkN sz) sz) s j b=if j=i/\blkN sz<=b then List.replicate 64 0 else blk (tx0 s) s j b:=fun j b d=>by
  unfold blk;rw[R];simp only;by_cases hc:j=i/\blkN (sz:Int)<=b
  .rw[ze hc,ze hc];rfl
  .rw[zb hc,zb hc];rfl
 have ay:=(hs.A_at hi).2.2.2.2.1
 -- what stands behind it, block by block
 have X:∃y,cutT s i (s.nodes.getD i zN) sz={y with gone:=srtI (sc (s.nodes.getD i zN).P (blkN sz))}/\y.gone=((tx0 s).cutX i (blkN sz) sz).gone/\TI y s [i]/\y.rows=s.rows/\256<=y.fake/\y.fake<=264/\y.put.length<=8/\y.dirty.length<=1 /\
  (∃P,y.nodes=s.nodes.set i {s.nodes.getD i zN with P:=P,s:=sz})/\∀j b,j<32->∀r,r<64->(blk y s j b)[r]?=if j=i/\sz<=64*b+r then some 0 else (blk (tx0 s) s j b)[r]? :=by
  have E:∀P,(((tx0 s).cutX i (blkN sz) sz).nodes.set i {((tx0 s).cutX i (blkN sz) sz).nodes.getD i zN with P:=P})=s.nodes.set i {s.nodes.getD i zN with P:=P,s:=sz}:=fun P=>by unfold Tx.cutX;simp only[hn,rG,O,hi,uC,vl,rS]
  have S:∀b r,r<64->(s.nodes.getD i zN).s<=((64*b+r:Nat))->(blk (tx0 s) s i b)[r]?=some 0:=fun b r n f=>m.z i hi b r n f;rw[SC i hi O sz];split
  .rename_i h;refine⟨_,rfl,rfl,by rw[ZH _ _ B.len hi];exact B,rfl,wU _,by show (256:Int)<=264;omega,ye _,zL,⟨_,E _⟩,fun j b d r n=>?_⟩;rw[ZH _ _ B.len hi,F j b d];by_cases a:j=i
   .subst a;by_cases G:blkN (sz:Int)<=b
    .rw[ze ⟨rfl,G⟩,ze ⟨rfl,by omega⟩,xf,ze n]
    .rw[zb (by omega)];by_cases f:sz<=64*b+r
     .rw[ze ⟨rfl,f⟩];have w:b=blkN sz-1:=(by omega);unfold sy at h;split at h
      .rename_i I;omega
      .rename_i I;by_cases J:(sz:Int)<(s.nodes.getD j zN).s
       .have h3:(resP (s.nodes.getD j zN).P (blkN sz)).getD (blkN sz-1) 0=0:=by
         by_cases h4:(resP (s.nodes.getD j zN).P (blkN sz)).getD (blkN sz-1) 0=0
         .exact h4
         .exact zY ⟨J,by omega,h4⟩ I
        unfold resP at h3;rw[XV,zb (by omega)]at h3;have h5:(tx0 s).pf j b=0:=(by unfold Tx.pf;rw[ze d,w];exact h3);unfold blk tT;rw[h5,ze rfl,xf,ze n]
       .exact S b r n (by omega)
     .rw[zb (by omega)]
   .rw[zb (by omega),zb (by omega)]
  .rename_i h;have K:(sy (s.nodes.getD i zN).P (blkN sz) (s.nodes.getD i zN).s sz).toNat=sz%64/\0<sz%64:=by
    unfold sy at h ⊢;split
    .rename_i I;omega
    .rename_i I;rw[zb I]at h;exact zY rfl h
   rw[K.1];have L:=B.blk_ok hs.sec hi (blkN (sz:Int)-1);have Z:((blk ((tx0 s).cutX i (blkN sz) sz) s i (blkN sz-1)).take (sz%64)++List.replicate (64-sz%64) 0).length=64:=(by rw[zm,zj,yN,L.1];omega);have U:un ((blk ((tx0 s).cutX i (blkN sz) sz) s i (blkN sz-1)).take (sz%64)++List.replicate (64-sz%64) 0):=fun v N=>by
    rcases yo.1 N with N|N
    .exact L.2 v (yY N)
    .exact UQ _ v N
   have M:=B;rw[<-ZH _ _ B.len hi]at M;have al:(((tx0 s).cutX i (blkN sz) sz).uy i).P.length=blkN sz:=hP;obtain⟨Q,b2,b3,b4,b5,T,b7⟩:=M.wr B.len hi (by simp) (by omega) (b:=blkN (sz:Int)-1) (by omega) ⟨Z,U⟩;refine⟨_,rfl,rfl,Q,rfl,wS (wU 256) b4,wS b5 (by show (256:Int)+1<=264;omega),zt T (by show 0+1<=8;omega),zL,⟨_,E _⟩,fun j b d r n=>?_⟩;rw[b2 j b d,ZH _ _ B.len hi,F j b d];by_cases a:j=i
   .subst a;by_cases w:b=blkN (sz:Int)-1
    .rw[ze ⟨rfl,w⟩,F j _ d,zb (by omega),<-w];have ax:=(m.ti.blk_ok hs.sec d b).1;by_cases f:sz<=64*b+r
     .rw[ze ⟨rfl,f⟩,zy (by rw[zj];omega),xf,ze (by rw[zj];omega)]
     .rw[zb (by omega),zX (by rw[zj];omega),vD (by omega)]
    .rw[zb (by omega)];by_cases G:blkN (sz:Int)<=b
     .rw[ze ⟨rfl,G⟩,ze ⟨rfl,by omega⟩,xf,ze n]
     .rw[zb (by omega),zb (by omega)]
   .rw[zb (by omega),zb (by omega),zb (by omega)]
 obtain⟨y,C,W,yt,yr,y1,y2,y3,y4,⟨P,yn⟩,V⟩:=X;have ac:∀j,y.nodes.getD j zN=if j=i then {s.nodes.getD i zN with P:=P,s:=sz} else s.nodes.getD j zN:=fun j=>by rw[yn,rG,O];grind
 have K:=yt.reGone (g:=srtI (sc (s.nodes.getD i zN).P (blkN sz))) fun p h=>by rw[W];exact H p h
 rw[<-C]at K;have u:∀j b,blk (cutT s i (s.nodes.getD i zN) sz) s j b=blk y s j b:=fun j b=>by rw[C];rfl
 have e:∀j,(cutT s i (s.nodes.getD i zN) sz).nodes.getD j zN=if j=i then {s.nodes.getD i zN with P:=P,s:=sz} else s.nodes.getD j zN:=fun j=>by rw[C];exact ac j
 have tv:TV (cutT s i (s.nodes.getD i zN) sz) s 8 [i] (upA A i {A i with s:=((cutB (A i).D sz).length),D:=cutB (A i).D sz}):=by
  refine⟨K,⟨⟨by rw[C];exact y1,by rw[C];exact y2⟩,by rw[C];exact ae,by rw[C];exact y3,by rw[C];show 8*y.dirty.length<=8;omega⟩,fun j d=>?_,fun j d b r n f=>?_⟩
  .unfold upA;by_cases a:j=i
   .subst a;rw[ze rfl];have Y:(cutT s j (s.nodes.getD j zN) sz).dirD s j=cutB (A j).D sz:=(by refine Yw K hs.sec d (by rw[e,ze rfl,o]) fun q f=>?_;rw[o]at f;rw[u,V j _ d _ (sr _ (by omega)),show 64*(q / 64)+q%64=q by omega,zb (by omega),m.byteD hs.sec d q];unfold cutB;rw[xF,ui f];rfl);unfold vw;rw[Y,e,ze rfl,o];obtain⟨Q,b2,b3,b4,_,T,b7,_⟩:=hs.A_at d;simp only;rw[Q,b2,b3,b4,T,b7]
   .rw[zb a,<-m.v j d];unfold vw;rw[VC (x:=tx0 s) d (by rw[e,zb a];rfl) (by rw[e,zb a];rfl) fun b=>by
     apply ww;intro r;rw[u];by_cases n:r<64
     .rw[V j b d r n,zb (by omega)]
     .rw[yj (by rw[(yt.blk_ok hs.sec d b).1];omega),yj (by rw[(m.ti.blk_ok hs.sec d b).1];omega)],e,zb a]
    rfl
  .rw[e]at f;rw[u,V j b d r n];by_cases a:j=i
   .rw[ze a]at f;have av:sz<=((64*b+r:Nat):Int):=f;rw[ze ⟨a,by omega⟩]
   .rw[zb a]at f;rw[zb (by omega)];exact m.z j d b r n f
 have gi:=(g.set hi {A i with s:=((cutB (A i).D sz).length:Int),D:=cutB (A i).D sz} (by show (A i).k≠0;rw[hk];decide) (by unfold vq;rw[zb (by show (A i).k≠2;rw[hk];decide),zb (by rw[hk];decide)]) (fun J=>zY (hk.symm.trans J) (by decide)) (g.pos i hi (by rw[hk];decide)) (fun h=>by subst h;exact zY (hk.symm.trans g.root) (by decide))).congr (δ':=fun _=>0) fun j _=>by
  show (0:Int)=0+if j=i then (A i).l-(A i).l else 0
  split<;>omega
 exact⟨⟨hs.pts hi,m.ti.right rfl hi,fun _=>tv.run hs hc (by omega) hs.rows⟩,tv,gi⟩
end
section
variable {x : Tx} {s : Fs} {n c i : Nat} {A : Nat->AN} {T : List Nat} {δ : Nat->Int}
theorem SI.own (x:SI s c A) (g:GI A fun _=>0) (C:c<=1000) (w:i<32) (y:(A i).k≠0) {gg:Int} (z:0<=u/\u<=255) (B:0<=gg/\gg<=255):
 rX s ((tx0 s).setX i (chgP (s.nodes.getD i zN) u gg))/\TV ((tx0 s).setX i (chgP (s.nodes.getD i zN) u gg)) s 8 [] (upA A i {A i with u:=u,g:=gg})/\GI (upA A i {A i with u:=u,g:=gg}) fun _=>0:=by
 have f:=x.tv [];have a:=f.fld w y;have b:=f.set w (N:=chgP (s.nodes.getD i zN) u gg) rfl rfl (zu ⟨⟨a.1.1,a.1.2.1,a.1.2.2.1,a.1.2.2.2.1,z.1,z.2,B.1,B.2,a.1.2.2.2.2.2.2.2.2⟩,a.2⟩);have e:⟨(chgP (s.nodes.getD i zN) u gg).k,(chgP (s.nodes.getD i zN) u gg).m,(chgP (s.nodes.getD i zN) u gg).u,(chgP (s.nodes.getD i zN) u gg).g,(chgP (s.nodes.getD i zN) u gg).s,(chgP (s.nodes.getD i zN) u gg).l,(chgP (s.nodes.getD i zN) u gg).up,(A i).D⟩={A i with u:=u,g:=gg}:=by obtain⟨n,q,v,t,o,p,h,_⟩:=x.A_at w;unfold chgP;simp only;rw[n,q,o,p,h]
 rw[e]at b;refine⟨b.run x C (by omega) x.rows,b,(g.set w {A i with u:=u,g:=gg} y rfl (fun d=>⟨g.dir i w d,g.ok i w d⟩) (g.pos i w y) (fun r=>by subst r;exact g.root)).congr fun j _=>?_⟩;show (0:Int)=0+if j=i then (A i).l-(A i).l else 0
 split<;>omega
theorem SI.still (F:SI s c A) {fo:Fo} (E:fo.nd 0=s.fo.nd 0) (G:fo.hs 0=s.fo.hs 0) (H:∀a,1<=a->a<4->nb fo a) (rows):TV {tx0 s with fo:=fo,rows:=rows} s 0 [] A:=by
 have h:=F.tv [];obtain⟨⟨x,e⟩,m,w,C,q,B,D⟩:=h.ti;have f:({tx0 s with fo:=fo,rows:=rows}:Tx).pf=(tx0 s).pf:=by funext i b;unfold Tx.pf;rw[E];rfl
 refine⟨⟨⟨x,?_⟩,by rw[f];exact m,w,H,q,B,fun j k=>rfl⟩,⟨h.cap.fk,h.cap.g,h.cap.p,h.cap.d⟩,h.v,fun j k b r u o=>by have:=h.z j k b r u o;unfold blk at this ⊢;rw[f];exact this⟩;rw[f];refine⟨e.k1,e.fk,?_,e.blk,e.nz,e.gn,e.rg,e.sl,fun n l=>?_,e.rise,fun y t=>zY t yK,e.pd⟩
 .have:=e.root;unfold vO at this ⊢;rw[show ({tx0 s with fo:=fo,rows:=rows}:Tx).ow.fo.nd 0=(tx0 s).ow.fo.nd 0 from E];exact this
 .rw[show ({tx0 s with fo:=fo,rows:=rows}:Tx).ow.fo.hs 0=(tx0 s).ow.fo.hs 0 from G];exact e.hs n l
theorem SI.fine (h:SI s c A):∀a,a<4->nb s.fo a:=fun a d=>by
 by_cases e:a=0
 .subst e;refine fine0 h.k1 fun j b=>?_;have:=(h.tv []).ti.ndPos (x:=tx0 s) b;have g:(tx0 s).fake=256:=rfl;have:=h.k1;have f:(tx0 s).fo.nd 0 j=s.fo.nd 0 j:=rfl;omega
 .exact (h.tv []).ti.fine a (by omega) d
theorem OW (f) (k):nb (delT f k) k:=by
 have a:encT (delT f k) k=encT tL 0:=by
  unfold encT
  congr 1
  funext j
  unfold uU delT;simp only[vl];rfl
 refine⟨fV fun i _=>?_,?_⟩
 .unfold delT ng;simp
 .unfold badT n9;rw[a];have:rx (encT tL 0) (encT tL 0) 0 48=true:=by kernel_rfl
  rw[this];simp
theorem SI.snap (u:SI s c A) (v:c<=1000) (t:(rm s.fo).2.2=0):rX s {tx0 s with fo:=(rm s.fo).1}/\TV {tx0 s with fo:=(rm s.fo).1} s 0 [] A:=by
 have g:=u.fine;have d:TV {tx0 s with fo:=(rm s.fo).1} s 0 [] A:=by
  unfold rm at t ⊢;split at t
  .rename_i o;rw[ze o];unfold nY at t ⊢;have e:∀k,1<=k->TV {tx0 s with fo:=putT s.fo k} s 0 [] A:=fun k f=>u.still (by unfold putT;simp only;rw[zb (by omega)]) (by unfold putT;simp only;rw[zb (by omega)]) (fun a r n=>by
    by_cases b:a=k
    .subst b;have p:=g 0 (by omega);have m:encT (putT s.fo a) a=encT s.fo 0:=by
      unfold encT
      congr 1
      funext j
      unfold uU putT;simp only[vl]
     obtain⟨l,q⟩:=p;refine⟨?_,?_⟩
     .unfold badN putT at *;simp only[vl]at *;exact l
     .unfold badT n9 vO at *
      rw[m];unfold putT;simp only[vl];exact q
    .exact VU (by unfold putT;simp only;rw[zb b]) (by unfold putT;simp only;rw[zb b]) (g a n)) s.rows
   by_cases f:vO s.fo 1=false
   .rw[ze f];exact e 1 (by omega)
   .rw[zb f]at t ⊢;by_cases h:vO s.fo 2=false
    .rw[ze h];exact e 2 (by omega)
    .rw[zb h]at t ⊢;by_cases i:vO s.fo 3=false
     .rw[ze i];exact e 3 (by omega)
     .rw[zb i]at t;cases t
  .cases t
 exact⟨d.run u v (by omega) u.rows,d⟩
theorem SI.forget (h:SI s c A) (i:c<=1000) {k:Nat} (j:1<=k):rX s {tx0 s with fo:=delT s.fo k}/\TV {tx0 s with fo:=delT s.fo k} s 0 [] A:=by
 have e:=h.fine;have d:TV {tx0 s with fo:=delT s.fo k} s 0 [] A:=h.still (by unfold delT;simp only;rw[zb (by omega)]) (by unfold delT;simp only;rw[zb (by omega)]) (fun a g f=>by
  by_cases b:a=k
  .subst b;exact OW _ _
  .exact VU (by unfold delT;simp only;rw[zb b]) (by unfold delT;simp only;rw[zb b]) (e a f)) s.rows
 exact⟨d.run h i (by omega) h.rows,d⟩
theorem SI.quota (i:SI s c A) (l:c<=1000) {lim:Int} (j:0<=u/\u<=255) (k: -1<=lim/\lim<=256) (m:py s.rows u lim=false):(setQ s.rows u lim).length<=20/\rd (setQ s.rows u lim)=0/\rX s {tx0 s with rows:=setQ s.rows u lim}/\TV {tx0 s with rows:=setQ s.rows u lim} s 0 [] A:=by
 have e:=ZY i.rows;have h:=Tp e.1 m;have f:=Tm ((iW s.rows).1 e.2) j.1 j.2 k.1 k.2;have d:rd (setQ s.rows u lim)=0:=by unfold rd;rw[zb (by omega),ze ((iW _).2 f)]
 have b:TV {tx0 s with rows:=setQ s.rows u lim} s 0 [] A:=i.still (fo:=s.fo) rfl rfl (fun a _ g=>i.fine a g) _;exact⟨h,d,b.run i l (by omega) d,b⟩
end
def upN (A:Nat->AN) (n:Nat):Nat:=((A n).up-1).toNat
def upI (A:Nat->AN):Nat->Nat->Nat
 | 0,n=>n
 | f+1,n=>if n=0 then 0 else upI A f (upN A n)
structure RI (A:Nat->AN):Prop where
 top:(A 0).up=1
 up:∀n,n<32->n≠0->(A n).k=2->upN A n<32/\(A n).up=(upN A n:Int)+1/\∃e∈vq (A (upN A n)),e.2=(n:Int)+1
 rch:∀n,n<32->(A n).k=2->∃f,upI A f n=0
theorem gN (A):∀f,upI A f 0=0
 | 0=>rfl
 | f+1=>ze rfl
theorem fS {a:AN} (h:e∈vq a):a.k=2:=by
 unfold vq at h;split at h
 .assumption
 .cases h
section
variable {A B : Nat->AN} {n i j : Nat}
theorem RI.par (h:RI A) (b:n<32) (c:n≠0) (d:(A n).k=2):(A (upN A n)).k=2:=by obtain⟨_,_,e,a,_⟩:=h.up n b c d;exact fS a
theorem RI.move (h:RI A) (J:(B 0).up=1) (E:n≠0) (F:j<32) (G:(A j).k=2) (H:∀t,upI A t j≠n)
 (hB:∀m,m<32->m≠0->(B m).k=2->m≠n->(A m).k=2/\(B m).up=(A m).up/\∃e∈vq (B (upN A m)),e.2=m+1)
 (I:n<32->(B n).k=2->(B n).up=j+1/\∃e∈vq (B j),e.2=n+1):RI B:=by
 have s:∀m,m<32->m≠0->(B m).k=2->upN B m<32/\(B m).up=(upN B m)+1/\∃e∈vq (B (upN B m)),e.2=m+1:=fun m i g l=>by
  by_cases o:m=n
  .subst o;obtain⟨a,b⟩:=I i l;have e:upN B m=j:=(by unfold upN;omega);rw[e];exact⟨F,a,b⟩
  .obtain⟨a,b,c⟩:=hB m i g l o;obtain⟨d,e,_⟩:=h.up m i g a;have r:upN B m=upN A m:=(by unfold upN;rw[b]);rw[r];exact⟨d,by rw[b];exact e,c⟩
 have q:∀m,m<32->m≠0->(B m).k=2->(B (upN B m)).k=2:=fun m i g l=>by obtain⟨_,_,e,D,_⟩:=s m i g l;exact fS D
 -- a chain of A that does not meet n is one of B
 have w:∀f m,m<32->(B m).k=2->(∀t,upI A t m≠n)->upI A f m=0->upI B f m=0:=by
  intro f
  induction f with
  | zero=>exact fun _ _ _ _ h=>h
  | succ f w=>
   intro m i l u p;unfold upI at p ⊢;split
   .rfl
   .next g=>
    rw[zb g]at p;obtain⟨a,b,_⟩:=hB m i g l (u 0);have r:upN B m=upN A m:=(by unfold upN;rw[b]);rw[r];refine w _ (h.up m i g a).1 (by rw[<-r];exact q m i g l) (fun t=>?_) p;have:=u (t+1);unfold upI at this;rw[zb g]at this;exact this
 have z:(B n).k=2->n<32->∃f,upI B f n=0:=fun l u=>by
  obtain⟨f,p⟩:=h.rch j F G;have e:upN B n=j:=by have:=(I u l).1;unfold upN;omega
  have v:(B j).k=2:=by rw[<-e];exact q n u E l
  refine⟨f+1,?_⟩;unfold upI;rw[zb E,e];exact w f j F v H p
 have y:∀f m,m<32->(B m).k=2->upI A f m=0->∃f,upI B f m=0:=by
  intro f
  induction f with
  | zero=>exact fun m _ _ p=>⟨0,p⟩
  | succ f y=>
   intro m i l p;by_cases o:m=n
   .subst o;exact z l i
   .by_cases g:m=0
    .subst g;exact⟨0,rfl⟩
    .unfold upI at p;rw[zb g]at p;obtain⟨a,b,_⟩:=hB m i g l o;have r:upN B m=upN A m:=(by unfold upN;rw[b]);obtain⟨C,x⟩:=y _ (h.up m i g a).1 (by rw[<-r];exact q m i g l) p;refine⟨C+1,?_⟩;unfold upI;rw[zb g,r];exact x
 refine⟨J,s,fun m i l=>?_⟩;by_cases g:m=0
 .subst g;exact⟨0,rfl⟩
 .by_cases o:m=n
  .subst o;exact z l i
  .obtain⟨f,p⟩:=h.rch m i (hB m i g l o).1;exact y f m i l p
theorem RI.stay (h:RI A) (f:(A 0).k=2) (g:(B 0).up=1) (hB:∀m,m<32->m≠0->(B m).k=2->(A m).k=2/\(B m).up=(A m).up/\∃e∈vq (B (upN A m)),e.2=m+1):RI B:=
 h.move g (n:=32) (j:=0) (by omega) (by omega) f (fun t=>by rw[gN];omega) (fun m a c b _=>hB m a c b) (fun d=>zY d (by omega))
theorem RI.chain (h:RI A) (d:(A 0).k=2):∀t m,m<32->(A m).k=2->upI A t m<32/\(A (upI A t m)).k=2
 | 0,_,a,b=>⟨a,b⟩
 | t+1,m,a,b=>by
  unfold upI;split
  .exact⟨by omega,d⟩
  .next c=>exact RI.chain h d t _ (h.up m a c b).1 (h.par a c b)
theorem Vn (g:GI A δ) (c:i<32) (b:(A i).k=2) (d:tc (A i).D e=0) (f):f∈vq (entA A i e i)↔f∈vq (A i)\/f=e:=by have a:=VI (g.ok i c b) d;unfold entA;rw[lw,Ug (A i) b a,(nA _).mem_iff];unfold vq;rw[ze b];simp
theorem lE (A) (i) (e) (m):(entA A i e m).k=(A m).k/\(entA A i e m).up=(A m).up/\(m≠i->entA A i e m=A m):=by
 unfold entA upA;split
 .next h=>subst h;exact⟨rfl,rfl,fun h=>zY rfl h⟩
 .exact⟨rfl,rfl,fun _=>rfl⟩
theorem jC (A) (i) (a) (m):(leaA A i a m).k=(A m).k/\(leaA A i a m).up=(A m).up/\(m≠i->leaA A i a m=A m):=by
 unfold leaA upA;split
 .next h=>subst h;exact⟨rfl,rfl,fun h=>zY rfl h⟩
 .exact⟨rfl,rfl,fun _=>rfl⟩
theorem RI.enter (h:RI A) (g:GI A δ) (p:i<32) (q:(A i).k=2) (r:tc (A i).D e=0):RI (entA A i e):=
 h.stay g.root (by rw[(lE A i e 0).2.1];exact h.top) fun m n o c=>by
  obtain⟨a,b,_⟩:=lE A i e m;rw[a]at c;obtain⟨_,_,f,j,l⟩:=h.up m n o c;refine⟨c,b,f,?_,l⟩;by_cases d:upN A m=i
  .rw[d]at j ⊢;exact (Vn g p q r f).2 (zr j)
  .rw[(lE A i e _).2.2 d];exact j
end
section
variable {A B : Nat->AN} {δ : Nat->Int} {n i j : Nat}
theorem RI.same (h:RI A) (d:(A 0).k=2) (hB:∀m,(B m).k=(A m).k/\(B m).up=(A m).up/\vq (B m)=vq (A m)):RI B:=
 h.stay d ((hB 0).2.1.trans h.top) fun m b c a=>by rw[(hB m).1]at a;rw[(hB _).2.2];exact⟨a,(hB m).2.1,(h.up m b c a).2.2⟩
theorem RI.add (h:RI A) (G:(A 0).k=2) {N:AN} (g:GI (upA A n N) δ) (E:i<32) (F:(A i).k=2) (C:(A n).k=0) (I:N.k=2->N.up=i+1) (H:tc (upA A n N i).D e=0) (J:e.2=n+1):RI (entA (upA A n N) i e):=by
 have s:i≠n:=by rintro rfl;rw[F]at C;cases C
 have o:upA A n N i=A i:=om _ _ s;have j:(upA A n N i).k=2:=by rw[o];exact F
 have q:n≠0:=by rintro rfl;rw[G]at C;cases C
 refine h.move ?_ q E F (fun t y=>?_) (fun m x w c p=>?_) (fun B d=>?_)
 .rw[(lE _ i e 0).2.1,om _ _ (yA q)];exact h.top
 .have:=(h.chain G t i E F).2;rw[y,C]at this;cases this
 .obtain⟨a,b,_⟩:=lE (upA A n N) i e m;rw[a,om _ _ p]at c;rw[om _ _ p]at b;obtain⟨_,_,f,r,v⟩:=h.up m x w c;refine⟨c,b,f,?_,v⟩;have u:upN A m≠n:=fun z=>by have:=h.par x w c;rw[z,C]at this;cases this
  by_cases l:upN A m=i
  .rw[l]at r ⊢;exact (Vn g E j H f).2 (zr (by rw[o];exact r))
  .rw[(lE _ i e _).2.2 l,om _ _ u];exact r
 .obtain⟨a,b,_⟩:=lE (upA A n N) i e n;rw[a,lw]at d;rw[b,lw];exact⟨I d,e,(Vn g E j H e).2 (zu rfl),J⟩
theorem RI.lea_at (h:RI A) (g:GI A δ) (o:i<32) (p:(A i).k=2) (q:e∈vq (A i)) (r:m<32) (s:m≠0) (l:(A m).k=2) (n:m+1≠e.2):
 ∃f∈vq (leaA A i e.1 (upN A m)),f.2=m+1:=by
 obtain⟨_,_,f,c,a⟩:=h.up m r s l;refine⟨f,?_,a⟩;by_cases b:upN A m=i
 .rw[b]at c ⊢;refine (iZ g o p _ f).2 ⟨c,fun j=>n ?_⟩;have d:=(rO _).1 (g.right o p);have:=jm d.2.2 q c j;rw[this,a]
 .rw[(jC A i _ _).2.2 b];exact c
theorem Y7 (b:(A n).k=2->(A n).l=1):(nf A n n).k≠2:=by
 unfold nf;rw[lw];split
 .show (0:Int)≠2;omega
 .next h=>exact fun a=>h (b a)
theorem RI.unlink (h:RI A) (g:GI A δ) (u:i<32) (v:(A i).k=2) (w:e∈vq (A i)) (x:n+1=e.2) (s:n≠0) (r:n<32) (t:(A n).k=2->vq (A n)=[]):RI (nf (leaA A i e.1) n):=by
 refine h.stay g.root ?_ fun m d o a=>?_
 .rw[jQ _ (yA s),(jC A i _ 0).2.1];exact h.top
 .have l:m≠n:=by rintro rfl;refine Y7 (A:=leaA A i e.1) (fun c=>?_) a;rw[(mK A i e.1 m).1]at c;rw[(mK A i e.1 m).2];exact g.dir m r c
  rw[jQ _ l]at a ⊢;rw[(jC A i _ m).1]at a;obtain⟨f,p,j⟩:=h.lea_at g u v w d o a (by omega);refine⟨a,(jC A i _ m).2.1,f,?_,j⟩;rw[jQ _ (fun c=>?_)]
  .exact p
  .obtain⟨_,_,q,b,_⟩:=h.up m d o a;rw[c,t (by rw[<-c];exact h.par d o a)]at b;cases b
theorem Ub (g:GI A δ) (j:i<32) (l:(A i).k=2) {f:En} (m:e∈vq (A i)) (d:f∈vq (A p)) (h:f.2≠e.2):f∈vq (leaA A i e.1 p):=by
 by_cases a:p=i
 .subst a;refine (iZ g j l _ f).2 ⟨d,fun b=>h ?_⟩;have c:=(rO _).1 (g.right j l);rw[jm c.2.2 m d b]
 .rw[(jC A i _ _).2.2 a];exact d
theorem TW (h:RI A) (g:GI A fun _=>0) (O:i<32) (M:(A i).k=2) (R:j<32) (P:(A j).k=2) (N:e∈vq (A i)) (Q:n+1=e.2)  
 (S:∀m,o=some m->m≠n/\m≠0/\m<32/\(∃f∈vq (A j),f.1=b/\m+1=f.2)/\((A m).k=2->vq (A m)=[])):
 (∀m,(movB A i j e.1 b o m).k=2->(A m).k=2/\(movB A i j e.1 b o m).up=(A m).up/\o≠some m) /\
 (∀m,m<32->m≠0->m≠n->(movB A i j e.1 b o m).k=2->∃f∈vq (movB A i j e.1 b o (upN A m)),f.2=m+1):=by
 cases o with
 | none=>
  refine⟨fun m d=>?_,fun m H D G d=>?_⟩
  .obtain⟨a,c,_⟩:=jC A i e.1 m;rw[show movB A i j e.1 b none=leaA A i e.1 from rfl]at d ⊢;rw[a]at d;exact⟨d,c,fun r=>by cases r⟩
  .rw[show movB A i j e.1 b none=leaA A i e.1 from rfl]at d ⊢;rw[(jC A i e.1 m).1]at d;obtain⟨_,_,f,u,p⟩:=h.up m H D d;exact⟨f,Ub g O M N u (by rw[p,<-Q];omega),p⟩
 | some q=>
  obtain⟨J,K,x,⟨v,F,rfl,w⟩,E⟩:=S q rfl;have L:=g.leave O M (e:=e) (by unfold vq at N;rw[ze M]at N;exact N);have y:(leaA A i e.1 j).k=2:=by rw[(mK A i e.1 j).1];exact P
  have I:=Ub g O M N F (by rw[<-w,<-Q];omega);have B:movB A i j e.1 v.1 (some q)=nf (leaA (leaA A i e.1) j v.1) q:=rfl;rw[B];have s:∀m,(leaA (leaA A i e.1) j v.1 m).k=(A m).k/\(leaA (leaA A i e.1) j v.1 m).l=(A m).l/\(leaA (leaA A i e.1) j v.1 m).up=(A m).up:=fun m=>
   ⟨(mK _ j _ m).1.trans (mK A i _ m).1,(mK _ j _ m).2.trans (mK A i _ m).2,(jC _ j _ m).2.1.trans (jC A i _ m).2.1⟩
  have z:∀m,(nf (leaA (leaA A i e.1) j v.1) q m).k=2->m≠q:=fun m d r=>by subst r;refine Y7 (fun r=>?_) d;rw[(s m).1]at r;rw[(s m).2.1];exact g.dir m x r
  refine⟨fun m d=>?_,fun m H D G d=>?_⟩
  .have t:=z m d;rw[jQ _ t]at d ⊢;rw[(s m).1]at d;exact⟨d,(s m).2.2,fun r=>by injection r with r;exact t r.symm⟩
  .have t:=z m d;rw[jQ _ t,(s m).1]at d;obtain⟨_,_,f,u,p⟩:=h.up m H D d;refine⟨f,?_,p⟩;have C:upN A m≠q:=fun r=>(by rw[r]at u;rw[E (fS u)]at u;cases u);rw[jQ _ C];exact Ub L R y I (Ub g O M N u (by rw[p,<-Q];omega)) (by rw[p,<-w];omega)
theorem RI.moves (h:RI A) (g:GI A fun _=>0) (S:i<32) (P:(A i).k=2) (O:j<32) (N:(A j).k=2) (T:e∈vq (A i)) (U:n+1=e.2)  
 (W:∀m,o=some m->m≠n/\m≠0/\m<32/\(∃f∈vq (A j),f.1=b/\m+1=f.2)/\((A m).k=2->vq (A m)=[]))
 (Q:(A n).k=2->∀t,upI A t j≠n) (R:GI (movB A i j e.1 b o) δ) (M:(movB A i j e.1 b o j).k=2) (V:tc (movB A i j e.1 b o j).D (b,n+1)=0):RI (movA A i j n e.1 b o):=by
 have z:n≠0:=fun s=>g.noRoot rfl S T (by rw[<-U,s];rfl);have p:∀t,upI A t j≠n:=fun t s=>by
  by_cases d:(A n).k=2
  .exact Q d t s
  .have:=(h.chain g.root t j O N).2;rw[s]at this;exact d this
 have l:j≠n:=p 0;obtain⟨C,L⟩:=TW h g S P O N T U W;generalize x:movB A i j e.1 b o=q at *
 have B:∀m,m≠n->movA A i j n e.1 b o m=entA q j (b,n+1) m:=fun m E=>by
  unfold movA;rw[x];dsimp only;split
  .exact om _ _ E
  .rfl
 have r:(movA A i j n e.1 b o n).k=(q n).k/\((A n).k=2->(movA A i j n e.1 b o n).up=j+1)/\vq (movA A i j n e.1 b o n)=vq (q n):=by
  unfold movA;rw[x];dsimp only;have H:=(lE q j (b,(n:Int)+1) n).2.2 (yA l);split
  .rw[lw,H];exact⟨rfl,fun _=>rfl,rfl⟩
  .next d=>
   rw[H];exact⟨rfl,fun s=>zY s d,rfl⟩
 refine h.move ?_ z O N p (fun m E J d w=>?_) (fun G d=>?_)
 .rw[B 0 (yA z),(lE q j _ 0).2.1];have:=(C 0 ?_).2.1
  .rw[this];exact h.top
  .have:=R.root;exact this
 .rw[B m w]at d ⊢;obtain⟨a,c,_⟩:=lE q j (b,(n:Int)+1) m;rw[a]at d;obtain⟨K,I,_⟩:=C m d;obtain⟨f,u,F⟩:=L m E J w d;refine⟨K,c.trans I,f,?_,F⟩;by_cases y:upN A m=n
  .rw[y]at u ⊢;rw[r.2.2];exact u
  .rw[B _ y];by_cases v:upN A m=j
   .rw[v]at u ⊢;exact (Vn R O M V f).2 (zr u)
   .rw[(lE q j _ _).2.2 v];exact u
 .rw[r.1]at d;exact⟨r.2.1 (C n d).1,(b,(n:Int)+1),by rw[B j l];exact (Vn R O M V _).2 (zu rfl),rfl⟩
end
section
variable {A : Nat->AN} {s : Fs} {c n i j : Nat}
theorem iR (A):∀a b m,upI A (a+b) m=upI A b (upI A a m)
 | 0,b,m=>by rw[yO];rfl
 | a+1,b,m=>by
  have c:upI A (a+1+b) m=if m=0 then 0 else upI A (a+b) (upN A m):=by rw[show a+1+b=(a+b)+1 by omega];rfl
  have d:upI A (a+1) m=if m=0 then 0 else upI A a (upN A m):=rfl
  rw[c,d];split
  .rw[gN]
  .exact iR A a b _
theorem least {P:Nat->Prop}:∀d,P d->∃e,e<=d/\P e/\∀k,k<e->¬P k
 | d,h=>by
  by_cases b:∃k,k<d/\P k
  .obtain⟨k,c,a⟩:=b;obtain⟨e,i,f,g⟩:=least k a;exact⟨e,by omega,f,g⟩
  .exact⟨d,zL,h,fun k c a=>b ⟨k,c,a⟩⟩
termination_by d=>d
theorem RI.short (r:RI A) (x:(A 0).k=2) (v:n<32) (w:(A n).k=2):∃d,d<=31/\upI A d n=0:=by
 obtain⟨f,p⟩:=r.rch n v w;obtain⟨d,_,l,e⟩:=least (P:=fun f=>upI A f n=0) f p;refine⟨d,?_,l⟩;have c:∀a b,a<b->b<d+1->((upI A a n))≠((upI A b n):Int):=fun a b s q t=>by
  have i:upI A a n=upI A b n:=by omega
  refine e (a+(d-b)) (by omega) ?_;rw[iR,i,<-iR,show b+(d-b)=d by omega];exact l
 have h:((List.range (d+1)).map fun k=>((upI A k n):Int)).Nodup:=by refine xW.2 (sX (fun {a b} u m g=>?_) List.pairwise_lt_range);exact c a b g (yH.1 m)
 have:=jS h (ys:=(List.range 32).map fun j:Nat=>(j:Int)) fun z o=>by obtain⟨k,_,rfl⟩:=zU.1 o;exact zU.2 ⟨_,yH.2 (r.chain x k n v w).1,rfl⟩
 simp at this;omega
theorem Vj (B:SI s c A) (r:RI A) (C:(A 0).k=2) (D:n<32):∀f d m,d<f->m<32->(A m).k=2->upI A d m=0->belN s (n+1) f (m+1)=false->∀t,upI A t m≠n
 | 0,_,_,h,_,_,_,_=>by omega
 | f+1,d,m,z,q,o,j,b=>by
  unfold belN at b;split at b
  .cases b
  .next v=>
   have i:m≠n:=fun y=>v (by rw[y]);by_cases a:m=0
   .subst a;intro t;rw[gN];exact i
   .rw[zb (by omega)]at b;have g:=B.A_at q;have e:(((m:Int)+1)-1).toNat=m:=(by omega);have l:jJ s (m+1)=true:=(by unfold jJ;rw[e,g.1,o];simp;omega);rw[ze l,e,g.2.2.2.2.2.2.1]at b;obtain⟨w,u,_⟩:=r.up m q a o;rw[u]at b;obtain⟨p,rfl⟩:∃p,d=p+1:=⟨d-1,by
     cases d with
     | zero=>exact zY j a
     | succ d=>rfl⟩
    unfold upI at j;rw[zb a]at j;have x:=Vj B r C D f p _ (by omega) w (r.par q a o) j b;intro t;cases t with
    | zero=>exact i
    | succ t=>
     unfold upI;rw[zb a];exact x t
theorem SI.bel (i:SI s c A) (r:RI A) (f:(A 0).k=2) (l:n<32) (g:j<32) (e:(A j).k=2) (h:belN s (n+1) 32 (j+1)=false):∀t,upI A t j≠n:=by obtain⟨d,b,a⟩:=r.short f g e;exact Vj i r f l 32 d j (by omega) g e a h
end
