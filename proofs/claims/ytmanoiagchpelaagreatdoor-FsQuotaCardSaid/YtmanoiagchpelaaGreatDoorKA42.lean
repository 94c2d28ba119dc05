import Derived.Test.YtmanoiagchpelaaGreatDoorKA39
import Derived.Test.YtmanoiagchpelaaGreatDoorKA40
import Derived.Test.YtmanoiagchpelaaGreatDoorKA41
import Derived.Lib.SlBytesConst
import Derived.Deep.SlicePairs
set_option maxHeartbeats 0
set_option linter.all false
set_option maxRecDepth 100000
namespace Go.Proofs.YtmanoiagchpelaaGreatDoor
open Go.Proofs.Tryz Go.RowKit
variable {D:List Int} {F:Nat->Prop} {L:List Pn} {a:AN} {e t:TypeId} {f0 f1 f2 f3 f4:Field} {j k:Nat} {nd:Nat->Int} {v:Value} {w:World}
section
variable {s : Fs} {n c i : Nat} {A : Nat->AN}
theorem UT {s:Fs}:∀{l} {out},out.Nodup->(sZ s out l).Nodup
 | [],_,h=>h
 | x::l,out,h=>by
  unfold sZ;split
  .rename_i e;refine UT (vf.2 ⟨h,by simp,fun a d b c=>?_⟩);rw[xt]at c;subst c;rintro rfl;simp[d]at e
  .exact UT h
theorem Wb (i:eI s):∀(f k) {out},DlOk s out->out.Nodup->0<out.length->DlOk s (mj s f k out)/\(mj s f k out).Nodup/\0<(mj s f k out).length
 | 0,_,_,a,b,c=>⟨a,b,c⟩
 | f+1,k,out,a,b,c=>by
  unfold mj;split
  .rename_i d;have e:=a (out.getD k 0) (by rw[zi,zh d.1];exact zx d.1);have g:=Vm (i.1 (out.getD k 0-1).toNat (by omega) e.2.2);have h:=Vu a g.2;exact Wb i f (k+1) h.1 (UT b) (by omega)
  .exact⟨a,b,c⟩
theorem Um (c:eI s):DlOk s (rC s)/\(rC s).Nodup/\0<(rC s).length/\(rC s).length<=32:=by
 have h:=Wb c 33 0 (out:=[1]) (fun n a=>by rw[xt]at a;subst a;exact⟨by omega,by omega,c.2⟩) (by simp) (by simp);refine⟨h.1,h.2.1,h.2.2,?_⟩;have:=jS h.2.1 (ys:=(List.range 32).map fun j:Nat=>(j:Int)+1) fun z b=>by have:=h.1 z b;exact zU.2 ⟨(z-1).toNat,yH.2 (by omega),by omega⟩
 rw[yp,tj]at this;exact this
theorem ll (g:eI s) (y):atN s y<32/\(s.nodes.getD (atN s y) zN).k=2:=by
 obtain⟨c,_,f,e⟩:=Um g;have d:=ru y (rC s).length (by omega) (by omega);unfold atN;have a:(pk y (rC s).length).toNat<(rC s).length:=by omega
 have b:=c ((rC s).getD (pk y (rC s).length).toNat 0) (by rw[zi,zh a];exact zx a);exact⟨by omega,b.2.2⟩
theorem jh (S):(strI S).length=S.size/\un (strI S):=by refine⟨by unfold strI;rw[yp,yv];rfl,fun y a=>?_⟩;obtain⟨b,_,rfl⟩:=zU.1 a;have:=b.toNat_lt;omega
theorem SI.found (n:SI s c A) (g:GI A fun _=>0) (l:i<32) (m:(A i).k=2) (name):
 (∃e∈outD (A i).D,e.1=name/\(vB (dirB s i) name).1=e.2/\(vB (dirB s i) name).2.2=0/\1<=e.2/\e.2<=32/\(A (e.2-1).toNat).k≠0)\/((∀e∈outD (A i).D,e.1≠name)/\(vB (dirB s i) name).1=0/\(vB (dirB s i) name).2.2=4):=by
 rw[(n.A_at l).2.2.2.2.2.2.2];rcases OX (g.ok i l m) name with⟨e,b,f,d,j⟩|h
 .have a:e∈vq (A i):=by unfold vq;rw[ze m];exact b
  have:=g.to l a;exact zr ⟨e,b,f,d,j,this.1,this.2,g.ino i l e a⟩
 .exact zu h
theorem SI.ino (m:SI s c A) (g:GI A fun _=>0) (x) (h:inoN s x≠0):(inoN s x-1).toNat<32/\(A (inoN s x-1).toNat).k≠0:=by
 have d:=m.dirsOk g;obtain⟨b,i⟩:=ll d x.A;unfold inoN at h ⊢;rcases m.found g b ((m.A_at b).1.symm.trans i) (nmOf x.B) with⟨e,_,_,a,_,j,l,f⟩|⟨_,a,_⟩
 .rw[a];exact⟨by omega,f⟩
 .exact zY a h
theorem SI.fin (b:SI s c A) (g:GI A fun _=>0) (d:c<2000) {x:Tx} {T:List Nat} {A':Nat->AN} (t:TV x s n T A') (e:GI A' fun _=>0) (r:RI A->RI A') (f:rd x.rows=0) (h:64*T.length+n<=208):
 SI (endS s x) (c+1) (if endE s x=0 then A' else A)/\(GI (if endE s x=0 then A' else A) fun _=>0)/\(RI A->RI (if endE s x=0 then A' else A)):=by
 by_cases a:endE s x=0
 .rw[ze a];exact⟨(t.done b d f h a).1,e,r⟩
 .rw[zb a];have:endS s x=s:=zb a;rw[this];exact⟨b.mono (by omega) d,g,id⟩
theorem SI.stay (a:SI s c A) (g:GI A fun _=>0) (b:c<=1000):∃A',SI s (c+1) A'/\(GI A' fun _=>0)/\(RI A->RI A'):=⟨A,a.mono (by omega) (by omega),g,id⟩
theorem SI.addM (p:SI s c A) (g:GI A fun _=>0) (v:c<=1000) (w:i<32) (q:(A i).k=2) {k m u gg:Int} (x:1<=k/\k<=3/\0<=m/\m<=511/\0<=u/\u<=255/\0<=gg/\gg<=255) {b:List Int} (y:b.length<=512/\un b) (t:k=2->b=[]) (D) (name):
 ∃A',SI (addM s i D name k m u gg b).2 (c+1) A'/\(GI A' fun _=>0)/\(RI A->RI A'):=by
 unfold Go.Proofs.YtmanoiagchpelaaGreatDoor.addM;split
 .cases a:pb s with
  | none=>exact p.stay g v
  | some n=>
   obtain⟨_,l,f⟩:=p.add g v w q a x y t name;simp only;rw[l];split
   .rename_i d;obtain⟨o,e⟩:=p.free a;have j:=(p.new g w o e x y t (i:=i)).2;exact⟨_,p.fin g (by omega) (f d).1 (f d).2 (fun r=>r.add g.root j w q e (fun h=>ze h) (by rw[om _ _ (g.ne q e)];exact d) rfl) p.rows (by simp)⟩
   .exact p.stay g v
 .exact p.stay g v
theorem jO (x:Tx) (s) (i) (a):(x.leaX s i a).rows=x.rows:=by unfold Tx.leaX Tx.fillX Tx.wow;split<;>rfl
theorem UA (x:Tx) (s) (i):(x.dropX s i).rows=x.rows:=by unfold Tx.dropX Tx.freeX Tx.setX;split<;>rfl
theorem SI.unlM (w:SI s c A) (g:GI A fun _=>0) (y:c<=1000) (x:i<32) (v:(A i).k=2) (name):
 ((
  vB (dirB s i) name).2.2=0->¬((s.nodes.getD ((vB (dirB s i) name).1-1).toNat zN).k=2/\0<(s.nodes.getD ((vB (dirB s i) name).1-1).toNat zN).s)->lc s i ((vB (dirB s i) name).1-1).toNat name) /\
  ∃A',SI (unlM s i (dirB s i) name).2 (c+1) A'/\(GI A' fun _=>0)/\(RI A->RI A'):=by
 rcases w.found g x v name with⟨e,f,rfl,m,l,u,p,q⟩|⟨_,m,l⟩
 .have j:(((e.2-1).toNat))+1=e.2:=by omega
  have d:=w.A_at (i:=(e.2-1).toNat) (by omega);unfold Go.Proofs.YtmanoiagchpelaaGreatDoor.unlM;simp only[m,l,vl,d.1,d.2.2.2.2.1];refine⟨fun _ a=>(w.unlink g y x v f j a).1,?_⟩;split
  .exact w.stay g y
  .rename_i a;obtain⟨_,t,o⟩:=w.unlink g y x v f j a;have b:e∈vq (A i):=(by unfold vq;rw[ze v];exact f);have n:=g.noRoot rfl x b;exact⟨_,w.fin g (by omega) t o (fun r=>r.unlink g x v b j (by omega) (by omega) fun _=>Uf ((w.tv [i]).len w.sec (by omega)) a) (by rw[UA,jO];exact w.rows) (by simp)⟩
 .refine⟨fun h=>by omega,?_⟩;unfold Go.Proofs.YtmanoiagchpelaaGreatDoor.unlM;simp only;rw[zb (by omega)];exact w.stay g y
theorem SQ (b:(A n).k≠2) (c:a.k≠2) (d:a.k=(A n).k) (e:a.up=(A n).up) {m:Nat}:(upA A n a m).k=(A m).k/\(upA A n a m).up=(A m).up/\vq (upA A n a m)=vq (A m):=by
 unfold upA;split
 .next h=>subst h;exact⟨d,e,by unfold vq;rw[zb b,zb c]⟩
 .exact⟨rfl,rfl,rfl⟩
theorem RI.like (r:RI A) (b:(A 0).k=2) (c:(A n).k≠2) (d:a.k≠2) (e:a.k=(A n).k) (f:a.up=(A n).up):RI (upA A n a):=r.same b fun _=>SQ c d e f
theorem SI.lnkM (u:SI s c A) (g:GI A fun _=>0) (w:c<=1000) (y:i<32) (v:(A i).k=2) (x:n<32) (name):∃A',SI (lnkM s i n (dirB s i) name).2 (c+1) A'/\(GI A' fun _=>0)/\(RI A->RI A'):=by
 have e:=u.A_at x;unfold Go.Proofs.YtmanoiagchpelaaGreatDoor.lnkM;simp only;rw[e.1,e.2.2.2.2.2.1];split
 .exact u.stay g w
 split
 .exact u.stay g w
 split
 .exact u.stay g w
 split
 .exact u.stay g w
 rename_i j b _ p;obtain⟨_,q,m⟩:=u.link g w y v x (fun h=>j (zr h)) b p name;rw[q];split
 .rename_i f;have d:i≠n:=by rintro rfl;exact b v
  have o:=g.set x {A n with l:=(A n).l+1} (fun h=>j (zr h)) (by unfold vq;rw[zb b]) (fun h=>zY h b) (by have:=g.pos n x (fun h=>j (zr h));show 1<=(A n).l+1;omega) (fun t=>by subst t;exact zY g.root b);exact⟨_,u.fin g (by omega) (m f).1 (m f).2 (fun r=>(RI.like (a:={A n with l:=(A n).l+1}) r g.root b b rfl rfl).enter o y (by rw[om _ _ d];exact v) (by rw[om _ _ d];exact f)) u.rows (by simp)⟩
 .exact u.stay g w
theorem SI.moved (N:SI s c A) (g:GI A fun _=>0) (r:RI A) (R:i<32) (M:(A i).k=2) (O:j<32) (L:(A j).k=2) {e:En} (S:e∈outD (A i).D) (T:n+1=e.2) {b:ByteArray} {o:Option Nat}
 (P:o≠some n) (U:∀m,o=some m->∃f∈outD (A j).D,f.1=b/\m+1=f.2) (Q:∀m,o=some m->((A m).k=2↔(A n).k=2)/\¬((A n).k=2/\0<(A m).s)) (K:movE s j n o=0) (V:tc (movB A i j e.1 b o j).D (b,n+1)=0):RI (movA A i j n e.1 b o):=by
 have l:e∈vq (A i):=by unfold vq;rw[ze M];exact S
 have z:=g.to R l;have a:n<32:=by omega
 have E:=N.tv [i];have u:∀m,o=some m->m≠n/\m≠0/\m<32/\(∃f∈vq (A j),f.1=b/\m+1=f.2)/\((A m).k=2->vq (A m)=[]):=fun m v=>by
  obtain⟨f,F,B,y⟩:=U m v;have d:f∈vq (A j):=by unfold vq;rw[ze L];exact F
  have J:=g.to O d;have I:=g.noRoot rfl O d;obtain⟨C,H⟩:=Q m v;exact⟨fun w=>P (by rw[v,w]),by omega,by omega,⟨f,d,B,y⟩,fun h=>Uf (E.len N.sec (by omega)) fun w=>H ⟨C.1 h,w.2⟩⟩
 have p:(A n).k=2->∀t,upI A t j≠n:=fun x=>by
  refine N.bel r g.root a O L ?_;unfold movE at K;rw[(N.A_at a).1]at K;cases o with
  | none=>
   dsimp only at K;split at K
   .omega
   .rename_i h;simpa[x]using h
  | some m=>
   dsimp only at K;split at K
   .split at K
    .omega
    .split at K
     .omega
     .rename_i h;simpa[x]using h
   .omega
 obtain⟨G,q⟩:=N.moveG g R M O L S T P U Q;exact r.moves g R M O L l T u p G q V
theorem SI.movM (S:SI s c A) (g:GI A fun _=>0) (V:c<=1000) (W:i<32) (T:(A i).k=2) (X:j<32) (U:(A j).k=2) (a b) (Y:rW b=true):
 ((
  vB (dirB s i) a).2.2=0->movO (dirB s j) b≠some ((vB (dirB s i) a).1-1).toNat->movE s j ((vB (dirB s i) a).1-1).toNat (movO (dirB s j) b)=0->kM s i j ((vB (dirB s i) a).1-1).toNat a b (movO (dirB s j) b)) /\
  ∃A',SI (movM s i j (dirB s i) (dirB s j) a b).2 (c+1) A'/\(GI A' fun _=>0)/\(RI A->RI A'):=by
 rcases S.found g W T a with⟨e,z,rfl,F,B,P,L,M⟩|⟨_,F,B⟩
 .have y:(((e.2-1).toNat))+1=e.2:=by omega
  have x:=S.A_at (i:=(e.2-1).toNat) (by omega);have v:∀m,movO (dirB s j) b=some m->m<32/\∃f∈outD (A j).D,f.1=b/\m+1=f.2:=fun m d=>by
   unfold movO at d;rcases S.found g X U b with⟨f,H,rfl,C,G,R,Q,O⟩|⟨_,C,G⟩
   .rw[C,G,ze rfl]at d;injection d with d;exact⟨by omega,f,H,rfl,by omega⟩
   .rw[zb (by omega)]at d;cases d
  have n:movE s j (e.2-1).toNat (movO (dirB s j) b)=0->∀m,movO (dirB s j) b=some m->((A m).k=2↔(A (e.2-1).toNat).k=2)/\¬((A (e.2-1).toNat).k=2/\0<(A m).s):=fun q m d=>by
   have t:=S.A_at (v m d).1;rw[d]at q;unfold movE at q;simp only[t.1,t.2.2.2.2.1,x.1]at q;split at q
   .rename_i p;split at q
    .omega
    .rename_i u;exact⟨p,u⟩
   .omega
  unfold Go.Proofs.YtmanoiagchpelaaGreatDoor.movM movR;rw[F,B,ze rfl];refine⟨fun _ p u=>(S.move g V W T X U z y p (fun m d=>(v m d).2) Y (n u)).1,?_⟩;split
  .exact S.stay g V
  split
  .exact S.stay g V
  rename_i p u;have l:movE s j (e.2-1).toNat (movO (dirB s j) b)=0:=by omega
  obtain⟨K,J,E⟩:=S.move g V W T X U z y p (fun m d=>(v m d).2) Y (n l);rw[J];split
  .exact S.stay g V
  rename_i N;have o:tc (movB A i j e.1 b (movO (dirB s j) b) j).D (b,(((e.2-1).toNat))+1)=0:=by omega
  refine⟨_,S.fin g (by omega) (E o).1 (E o).2 (fun r=>S.moved g r W T X U z y p (fun m d=>(v m d).2) (n l) l o) ?_ (by simp)⟩;have I:(movX s i j (e.2-1).toNat e.1 b (movO (dirB s j) b)).rows=(movT s i j e.1 b (movO (dirB s j) b)).rows:=by unfold movX movY;split<;>rfl
  rw[I];have w:(movT s i j e.1 b (movO (dirB s j) b)).rows=s.rows:=by
   cases movO (dirB s j) b with
   | none=>exact jO _ _ _ _
   | some m=>exact (UA _ _ _).trans ((jO _ _ _ _).trans (jO _ _ _ _))
  rw[w];exact S.rows
 .refine⟨fun h=>by omega,?_⟩;unfold Go.Proofs.YtmanoiagchpelaaGreatDoor.movM;rw[zb (by omega)];exact S.stay g V
theorem SI.wrtM (h:SI s c A) (g:GI A fun _=>0) (j:c<=1000) (l:i<32) (p) {Dt:List Int} (m:un Dt):∃A',SI (wrtM s i p Dt).2 (c+1) A'/\(GI A' fun _=>0)/\(RI A->RI A'):=by
 unfold Go.Proofs.YtmanoiagchpelaaGreatDoor.wrtM;simp only;split
 .exact h.stay g j
 split
 .exact h.stay g j
 split
 .exact h.stay g j
 split
 .exact h.stay g j
 rename_i _ b e f;have a:(A i).k=1:=by rw[<-(h.A_at l).1];exact Classical.not_not.1 b
 obtain⟨_,t,d⟩:=h.write g j l a (p:=p) (by omega) (by omega) m;exact⟨_,h.fin g (by omega) t d (fun r=>r.like g.root (by rw[a];omega) (show (A i).k≠2 by rw[a];omega) rfl rfl) h.rows (by simp)⟩
theorem SI.byteE (e:SI s c A):le s:=fun n d x a=>by
 unfold secE at a;cases b:getZ s.todo (n:Int) with
 | some D=>rw[b]at a;exact (e.tk _ (nu b)).2.2.2 x a
 | none=>rw[b]at a;exact gU e.bn n x a
theorem SI.doOk (O:SI s c A) (g:GI A fun _=>0) (P:c<=1000) (x) (Q:x.S.size<=300):DoOk s x:=by
 have D:=O.dirsOk g;have i:=ll D x.A;have v:=ll D x.B;have d:=(O.A_at i.1).1.symm.trans i.2;have q:=(O.A_at v.1).1.symm.trans v.2;have I:=ru x.C 3 (by omega) (by omega);have w:=ru x.C 512 (by omega) (by omega);have F:=ru x.C 20 (by omega) (by omega);have N:=ru x.B 3 (by omega) (by omega);have H:=ZY O.rows;have p:∀n,n<32->(s.nodes.getD n zN).k=(A n).k:=fun n l=>(O.A_at l).1;have f:([]:List Int).length<=512/\un []:=⟨ye _,fun y K=>zY K yK⟩;refine⟨Q,fun _ _ n l=>(O.add g P i.1 d l (by omega) f (fun _=>rfl) _).1,fun _ _ n l=>(O.add g P i.1 d l (by omega) f (fun _=>rfl) _).1,fun _ b o E e=>?_,fun _ e z=>(O.unlM g P i.1 d _).1 e z,fun X G=>?_,fun _ e a m=>(O.movM g P i.1 d v.1 q _ _ (lU _)).1 e a m,fun _ b o=>?_,fun _ b=>⟨?_,fun e m _ r E=>?_⟩,fun _ M _ n l=>?_,fun _ b e=>?_,H.2,fun _ J=>?_,fun _=>O.syncOk P,fun _ e=>(O.snap P e).1,fun _ e=>(O.forget P (by omega)).1⟩
 .have a:=O.ino g x b;exact (O.write g P a.1 ((p _ a.1).symm.trans o) E e (jh _).2).1
 .obtain⟨j,L,rfl⟩:=(O.tv []).ti.mem (x:=tx0 s) G;rcases (O.tv []).ti.nd j L with h|h
  .rw[h];exact⟨wU 0,by show (0:Int)<=32;omega⟩
  .by_cases o:((tx0 s).nodes.getD j zN).k=2
   .have:=h.2.2.2.1 o;omega
   .have:=h.2.2.2.2.1 o;omega
 .have a:=O.ino g x b;exact (O.cut g P a.1 ((p _ a.1).symm.trans o) (by omega)).1
 .have a:=O.ino g x b;have m:=(O.tv []).fld a.1 a.2;exact⟨m.1.2.2.2.2.2.2.2.2.1,m.1.2.2.2.2.2.2.2.2.2⟩
 .have a:=O.ino g x b;have t:=O.A_at a.1;exact (O.link g P v.1 q a.1 a.2 (by rw[<-t.1];exact m) (by rw[<-t.2.2.2.2.2.1];exact r) _).1
 .have a:=jh (tS x.S);exact (O.add g P i.1 d l (by omega) ⟨by omega,a.2⟩ (fun h=>by omega) _).1
 .have a:=O.ino g x b;exact (O.own g P a.1 a.2 (by omega) (by omega)).1
 .obtain⟨a,_,t,_⟩:=O.quota P (u:=pk x.B 3) (lim:=pk x.C 20-1) (by omega) (by omega) J;exact⟨a,t⟩
theorem SI.doM (H:SI s c A) (g:GI A fun _=>0) (I:c<=1000) (x) (J:x.S.size<=300):∃A',SI (doM s x).2 (c+1) A'/\(GI A' fun _=>0)/\(RI A->RI A'):=by
 have p:=H.dirsOk g;have f:=ll p x.A;have j:=ll p x.B;have b:=(H.A_at f.1).1.symm.trans f.2;have i:=(H.A_at j.1).1.symm.trans j.2;have z:=ru x.C 3 (by omega) (by omega);have n:=ru x.C 512 (by omega) (by omega);have q:=ru x.C 20 (by omega) (by omega);have G:=ru x.B 3 (by omega) (by omega);have e:([]:List Int).length<=512/\un []:=⟨ye _,fun y E=>zY E yK⟩;unfold Go.Proofs.YtmanoiagchpelaaGreatDoor.doM;simp only;split
 .exact H.addM g I f.1 b (by omega) e (fun _=>rfl) _ _
 .exact H.addM g I f.1 b (by omega) e (fun _=>rfl) _ _
 .split
  .exact H.stay g I
  rename_i a;have d:=H.ino g x a;exact H.wrtM g I d.1 _ (jh x.S).2
 .exact (H.unlM g I f.1 b _).2
 .exact (H.movM g I f.1 b j.1 i _ _ (lU _)).2
 .split
  .exact H.stay g I
  rename_i a;have d:=H.ino g x a;unfold cutM;simp only;split
  .exact H.stay g I
  split
  .exact H.stay g I
  split
  .exact H.stay g I
  rename_i _ F _;have l:(A (inoN s x-1).toNat).k=1:=by rw[<-(H.A_at d.1).1];exact Classical.not_not.1 F
  obtain⟨_,t,o⟩:=H.cut g I d.1 l (sz:=(pk x.C 512).toNat) (by omega);exact⟨_,H.fin g (by omega) t o (fun r=>r.like g.root (by rw[l];omega) (show (A (inoN s x-1).toNat).k≠2 by rw[l];omega) rfl rfl) H.rows (by simp)⟩
 .split
  .exact H.stay g I
  rename_i a;have d:=H.ino g x a;exact H.lnkM g I j.1 i d.1 _
 .unfold symM;split
  .exact H.stay g I
  .have d:=jh (tS x.S);exact H.addM g I f.1 b (by omega) ⟨by omega,d.2⟩ (fun h=>by omega) _ _
 .split
  .exact H.stay g I
  rename_i a;have d:=H.ino g x a;unfold ownM;simp only;split
  .exact H.stay g I
  obtain⟨_,t,o⟩:=H.own g I d.1 d.2 (u:=pk x.C 3) (gg:=0) (by omega) (by omega);exact⟨_,H.fin g (by omega) t o (fun r=>r.same g.root fun m=>by unfold upA;split<;>simp_all [vq]) H.rows (by simp)⟩
 .unfold ol;split
  .exact H.stay g I
  rename_i D;obtain⟨_,v,_,t⟩:=H.quota I (u:=pk x.B 3) (lim:=pk x.C 20-1) (by omega) (by omega) (by simpa using D);exact⟨_,H.fin g (by omega) t g id v (by simp)⟩
 .exact⟨A,H.sync (by omega),g,id⟩
 .split
  .unfold mC;split
   .rename_i w;exact⟨_,H.fin g (by omega) (H.snap I w).2 g id H.rows (by simp)⟩
   .exact H.stay g I
  .unfold lO;split
   .exact⟨_,H.fin g (by omega) (H.forget I (k:=(1+pk x.C 3).toNat) (by omega)).2 g id H.rows (by simp)⟩
   .exact H.stay g I
end
def rootA : AN:=⟨2,493,0,0,0,1,1,[]⟩
def mF : Nat->AN:=fun i=>if i=0 then rootA else zAN
theorem Ur (k i) (a:i<32):((tx0 (fs0 k)).nodes.getD i zN)=if i=0 then nZ else zN:=Yb i a
theorem iJ (k i b) (a:i<32):(tx0 (fs0 k)).pf i b=0:=by unfold Tx.pf;rw[ze a,Ur k i a];split<;>rfl
theorem RP: ((List.range 4).all fun a=> !badN (ub 16) a&&!badT (ub 16) a)=true:=by kernel_rfl
theorem YY (k i) (a:i<32):(tx0 (fs0 k)).dirD (fs0 k) i=[]:=by rw[lX _ _ a,Ur k i a];split<;>rfl
theorem kT (F:64<=k) (E:k<=256):SI (fs0 k) 0 mF:=by
 obtain⟨A,v,t,C⟩:=Ys k F;have f:=Z3;have d:∀b,(tx0 (fs0 k)).pf 32 b=(ub 16).nd 0 b:=fun b=>rfl;have s:∀i b,32<i->(tx0 (fs0 k)).pf i b=0:=fun i b h=>by unfold Tx.pf;rw[zb (by omega),zb (by omega)]
 refine⟨fun T=>⟨⟨⟨fun z=>if 37<=z/\z<53 then some (32,(z-37).toNat) else none,E,⟨wU _,fun _=>rfl⟩,by kernel_rfl,fun i b m g=>?_,fun j o=>?_,fun p c=>zY c yK,fun p a c=>?_,fun p i b c=>?_,fun n D=>?_,List.Pairwise.nil,fun y e=>zY e yK,fun y e=>zY e yK⟩,fun i b l q=>?_,by kernel_rfl,fun a _ w=>?_,fun i l=>?_,fun y e=>zY e yK,fun _ _=>rfl⟩,⟨⟨wU _,wU _⟩,zL,zL,zL⟩,fun j o=>?_,fun i l b r B _=>?_⟩,by kernel_rfl,List.Pairwise.nil,ye _,fun y e=>zY e yK,F,⟨A,t⟩,?_,rfl,⟨wU _,wU _⟩,by show (fmtE (uZ k) k).W.length<=_;rw[v];exact zL,ye _⟩
 .rcases m with m|⟨rfl,m⟩
  .rw[iJ k i b m]at g;exact zY rfl g
  .rw[d,f b m,ze (by omega)]
   congr 2
   omega
 .rw[d,f j o];omega
 .split at c
  .left;show 37<=p/\p<(k:Int);omega
  .cases c
 .split at c
  .rename_i h;injection c with c;injection c with x u;subst x u;refine zr ⟨zu ⟨rfl,by omega⟩,?_⟩;rw[d,f _ (by omega)];omega
  .cases c
 .show (ub 16).hs 0 n=true↔_;unfold ub;simp only[decide_true,uf,yL,xw];by_cases h:37<=(n:Int)/\(n:Int)<53
  .rw[ze h];simp;omega
  .rw[zb h];simp;omega
 .rw[iJ k i b l]at q;omega
 .have h:=yW.1 RP a (yH.2 w);simp only[yL,vZ]at h;exact h
 .rw[Ur k i l];split
  .exact zu ⟨⟨by decide,by decide,by decide,by decide,by decide,by decide,by decide,by decide,by decide,by decide⟩,by decide,by decide,fun _=>⟨by decide,by decide⟩,fun h=>zY rfl h,by decide⟩
  .exact zr rfl
 .unfold vw mF;rw[YY k j o,Ur k j o];split<;>rfl
 .unfold blk tT;rw[iJ k i b l,ze rfl,xf,ze B]
 .refine Ih t fun p c=>?_;show un (sec (fmtE (uZ k) k).N p);rw[Y4 k F p c];exact fU k p E
theorem new_RI: RI mF:=by
 have h:∀n,n≠0->(mF n).k≠2:=fun n b a=>by unfold mF at a;rw[zb b]at a;cases a
 refine⟨rfl,fun n _ b a=>zY a (h n b),fun n _ a=>?_⟩;by_cases b:n=0
 .exact⟨0,b⟩
 .exact zY a (h n b)
theorem kU: GI mF fun _=>0:=by
 have d:∀i,vq (mF i)=[]:=fun i=>by
  unfold mF;split
  .unfold vq rootA;rw[ze rfl];exact ft
  .rfl
 have f:∀z,cntA mF z=0:=fun z=>by unfold cntA;simp only[d,List.countP_nil];rfl
 have b:∀i,i≠0->mF i=zAN:=fun i h=>zb h;refine⟨fun i g a=>?_,fun i g e h=>(by rw[d]at h;cases h),fun n c=>?_,fun n c a=>?_,fun n c a=>?_,rfl,fun n c a=>?_⟩
 .unfold mF at a ⊢;split
  .exact JY
  .rename_i h;rw[zb h]at a;cases a
 .rw[f];by_cases h:n=0
  .subst h;rfl
  .rw[b n h,zb h];rfl
 .by_cases h:n=0
  .subst h;exact wU 1
  .rw[b n h]at a;exact zY rfl a
 .by_cases h:n=0
  .subst h;cases a
  .exact b n h
 .by_cases h:n=0
  .subst h;rfl
  .rw[b n h]at a;cases a
def rc (l:List DoI):Fs:=l.foldl (fun s x=>(doM s x).2) (fs0 96)
theorem Jd (l) (x):rc (l++[x])=(doM (rc l) x).2:=by unfold rc;rw[xG];rfl
theorem gA (l:List DoI) (j:l.length<=1000) (i:∀x∈l,x.S.size<=300):∀k,k<=l.length->∃A,SI (rc (l.take k)) k A/\(GI A fun _=>0)/\RI A
 | 0,_=>⟨mF,kT (by omega) (by omega),kU,new_RI⟩
 | k+1,h=>by obtain⟨A,f,d,g⟩:=gA l j i k (by omega);have e:l.take (k+1)=l.take k++[l[k]]:=(zR (by omega)).symm;rw[e,Jd];obtain⟨B,a,b,c⟩:=f.doM d (by omega) _ (i _ (zx _));exact⟨B,a,b,c g⟩
theorem Y9 (l:List DoI) (c:l.length<=1000) (d:∀x∈l,x.S.size<=300) (k) (e:k<=l.length):∃A,SI (rc (l.take k)) k A/\GI A fun _=>0:=by obtain⟨A,a,b,_⟩:=gA l c d k e;exact⟨A,a,b⟩
theorem do_SI {gf:Nat} {s:Fs} {a:Addr} {c:Nat} {A:Nat->AN} (h:FsAt w gf s F a) (j:SI s c A) (g:GI A fun _=>0) (k:c<=1000) (x) (l:x.S.size<=300):
 Calls prog 18 #[(gf,()),.agg #[.int .i64 x.K,.int .i64 x.A,.int .i64 x.B,.int .i64 x.C,.string x.S]] w (fun e w'=>e=.returned (.int .i64 (doM s x).1)/\uB w gf (doM s x).2 F a w'):=by
 have b:=j.dirsOk g;obtain⟨d,_,f,i⟩:=Um b;exact do_any h b x ⟨f,by omega⟩ d (j.doOk g k x l)
def nmA : ByteArray:=⟨#[97]⟩
def fD1 : List Int:=layD (outD []++[(nmA,2)])
def fX0 : Pn:={nZ with P:=[53],s:=16}
def fX1 : Pn:=⟨1,420,0,0,6,1,0,[54]⟩
def fDt : List Int:=[120,121,122]
def fs1 : Fs:=(addM (fs0 80) 0 [] nmA 1 420 0 0 []).2
def fs2 : Fs:=(wrtM fs1 1 3 fDt).2
def fs3 : Fs:=mE fs2
def fdk : Dk:=kX fs3.dk []
def fdk' : Dk:=lr fdk
def fs4 : Fs:=⟨fdk',80,seqO fdk.N,fs2.fo,[],fs2.nodes,[],[]⟩
theorem IR: (addM (fs0 80) 0 [] nmA 1 420 0 0 []).1=(2,0)/\(wrtM fs1 1 3 fDt).1=(3,0):=⟨by kernel_rfl,by kernel_rfl⟩
def padS (l:List Int):List Int:=l++List.replicate (64-l.length) 0
def gS : Nat->List Int
 | 0=>padS [114,105,110,103,1,80]
 | 1=>padS [37,38,39,40,41,42,43,44,45,46,47,48,49,50,51,52]
 | 2=>padS [0,0,0,0,224,255,127]
 | 5=>padS [74,1,0,0,0,4,2,37,53,54]
 | 6=>padS [0,0,0,0,224,255,127]
 | 7=>padS [2,237,1,0,0,16,0,1,1,53,1,0,0,0,0,0,0,0,0,0,0,0,0,0,0,0,0,0,0,0,0,0,1,164,1,0,0,6,0,1,0,54,1]
 | 8=>padS [97,0,0,0,0,0,0,0,0,0,0,0,0,0,2]
 | 9=>padS [0,0,0,120,121,122]
 | 10=>padS [67,1,0,0,0,197,28,60,81]
 | 37=>padS [2,237,1,0,0,16,0,1,1,53,1,0,0,0,0,0,0,0,0,0,0,0,0,0,0,0,0,0,0,0,0,0,1,164,1,0,0,6,0,1,0,54,1]
 | 53=>padS [97,0,0,0,0,0,0,0,0,0,0,0,0,0,2]
 | 54=>padS [0,0,0,120,121,122]
 | _=>rE
def ix (l:List Int):Bool:=l.all fun x=>decide (0<=x)&&decide (x<=255)
theorem Uo {l:List Int} (h:ix l=true):∀x∈l,0<=x/\x<=255:=fun x a=>by have:=yW.1 h x a;simpa using this
def freeQ (l:List Wr):Bool:=l.all fun x=>decide (x.1<80)&&(decide (x.1<5)||decide (37<=x.1))
theorem Qq {l:List Wr} (h:freeQ l=true):∀x∈l,lf 80 x:=fun x a=>by have:=yW.1 h x a;simpa[lf]using this
def secsQ (N:List Int) (g:Nat->List Int) (k:Nat):Bool:=(List.range k).all fun n=>decide (sec N n=g n)
theorem Vv {N:List Int} {g:Nat->List Int} (h:secsQ N g k=true):∀n,n<k->sec N n=g n:=fun n a=>by have:=yW.1 h n (yH.2 a);simpa using this
theorem VQ: secsQ fdk'.N gS 80=true:=by kernel_rfl
theorem MA: (decide (sec fdk.N 0=rB 80)&&ix fdk.N&&freeQ (qW fdk.N)&&decide (seqO fdk.N=1)&&decide (fdk.W.length=0))=true:=by kernel_rfl
theorem Y1 (n) (a:n<80):∀x∈gS n,0<=x/\x<=255:=by
 have h:((List.range 80).all fun n=>ix (gS n))=true:=by kernel_rfl
 exact Uo (yW.1 h n (yH.2 a))
section
variable {N N' : Nat->List Int} {k : Nat} {f : Fo}
theorem jz.congr (h:jz N f k) (b:4<=k) (a:∀n,n<k->N' n=N n):jz N' f k:=by
 have e:sS N'=sS N:=by unfold sS;rw[a 1 (by omega),a 2 (by omega),a 3 (by omega)]
 exact⟨by rw[e];exact h.eq,by rw[e];exact h.right,h.root,h.nds⟩
theorem IW (h:∀j,j<16->0<=nd j/\nd j<k) (a:∀n,n<k->N' n=N n) (j) (b:j<32):nn N' nd j=nn N nd j:=by unfold nn;have:=h (j / 2) (by omega);rw[a _ (by omega)]
theorem jy.congr (h:jy N nd k) (b:∀n,n<k->N' n=N n):jy N' nd k:=
 ⟨h.1,fun j a=>by rw[IW h.1 b j a];exact h.2 j a⟩
theorem Ir (h:∀j,j<16->0<=nd j/\nd j<k) (b:∀n,n<k->N' n=N n):sY N' nd 32=sY N nd 32:=by unfold sY;refine xY fun j a=>?_;rw[IW h b j (by simpa using a)]
theorem Jq {P:List Int} (h:∀p∈P,p=0\/(37<=p/\p<k)) (d:∀n,n<k->N' n=N n) (s):tO N' P s=tO N P s:=by
 unfold tO;have e:P.flatMap (tT N')=P.flatMap (tT N):=by
  rw[rA,rA]
  congr 1
  refine xY fun p a=>?_;unfold tT;rcases h p a with rfl|⟨c,b⟩
  .simp
  .rw[d _ (by omega)]
 rw[e]
theorem Zc.congr {t:Nat} (h:Zc N f t k L) (c:∀n,n<k->N' n=N n):Zc N' f t k L:=by
 have e:po N' L=po N L:=by
  unfold po;refine Jq (fun p a=>?_) c _;by_cases b:0<L.length
  .rw[zi,zh b,uK]at a;exact h.own.pts _ (zx _) p a
  .rw[zi,yj (by omega)]at a;cases a
 exact⟨h.tree.congr c,(Ir h.tree.1 c).trans h.eq,h.own,h.size,by rw[e];exact h.list,by rw[e];exact h.root,h.up,by rw[e];exact h.names⟩
theorem lT.congr (h:lT N f k) (d:5<=k) (c:∀n,n<k->N' n=N n):lT N' f k:=
 ⟨by rw[c 0 (by omega)];exact h.mark,h.load.congr (by omega) c,by rw[c 4 (by omega)];exact h.quota,fun t b a=>(h.tree t b a).imp fun _ h=>h.congr c⟩
end
def ip (bs:List Int):Bool:=
 decide (bs.length=32)&&(decide ((midB bs).length=16)&&decide ((rK (midB bs)).2=0)&&decide (sB (ofE (rK (midB bs)).1)=midB bs))&&decide (vL (bs.getD 0 0) (bs.getD 1 0+bs.getD 2 0*256) (bs.getD 3 0) (bs.getD 4 0) (bs.getD 5 0+bs.getD 6 0*256) (bs.getD 7 0) (bs.getD 8 0) (ptsN bs)=0) &&
 decide (rV (bs.getD 0 0) (bs.getD 1 0+bs.getD 2 0*256) (bs.getD 3 0) (bs.getD 4 0) (bs.getD 5 0+bs.getD 6 0*256) (bs.getD 7 0) (bs.getD 8 0) (ptsN bs)=bs)
theorem Qc {bs:List Int} (h:ip bs=true):mh bs:=by unfold ip at h;simp only[yL,xw]at h;exact⟨h.1.1.1,⟨h.1.1.2.1.1,h.1.1.2.1.2,h.1.1.2.2⟩,h.1.2,h.2⟩
def iq (N:Nat->List Int) (f:Fo) (k:Nat) (L:List Pn):Bool:=
 decide (N 0=rB k)&&decide (qa (foB (sS N))=0)&&(vO f 0&&!vO f 1&&!vO f 2&&!vO f 3) &&
 ((List.range 16).all fun i=>decide (37<=f.nd 0 i)&&decide (f.nd 0 i<k))&&decide (N 4=rE) &&
 ((List.range 32).all fun j=>ip (nn N (f.nd 0) j)) &&
 decide ((pu (f.nd 0) 16++sR L).Nodup)&&(L.all fun x=>decide (x.P.length<=8)&&x.P.all fun p=>decide (p=0)||(decide (37<=p)&&decide (p<k))) &&
 ((List.range 256).all fun m=>decide (rY (pu (f.nd 0) 16++sR L) m=f.hs 0 m)) &&
 (decide (0<=(L.getD 0 zN).s)&&decide ((L.getD 0 zN).s<=512))&&sU (po N L) &&
 (decide (L.length=32)&&((List.range 32).all fun i=>decide ((L.getD i zN).k=2)==decide (i=0))&&((outD (po N L)).all fun x=>decide (1<x.2)&&decide (x.2<=32))&&decide ((outD (po N L)).length<=32)) &&
 decide ((L.getD 0 zN).up=1)&&((List.range 32).all fun i=>decide ((L.getD i zN).l=qX (outD (po N L)) i)&&(!decide ((L.getD i zN).k=0)||decide (qX (outD (po N L)) i<=0)))
theorem Qw {N:Nat->List Int} {f:Fo} (h:iq N f k L=true) (K:encF (foB (sS N))=encF f) (M:sY N (f.nd 0) 32=L):lT N f k:=by
 unfold iq at h;simp only[yL,xw,yW,yH,vZ,r9,vx,zM]at h;obtain⟨⟨⟨⟨⟨⟨⟨⟨⟨⟨⟨⟨⟨E,B⟩,⟨⟨H,y⟩,z⟩,A⟩,r⟩,G⟩,I⟩,n⟩,c⟩,o⟩,e⟩,l⟩,⟨⟨q,s⟩,m⟩,w⟩,g⟩,d⟩:=h;refine⟨E,⟨K,B,H,fun t i C b a=>?_⟩,by rw[G];exact KY,fun t C a=>?_⟩
 .have:t=0\/t=1\/t=2\/t=3:=by omega
  rcases this with rfl|rfl|rfl|rfl
  .exact r i b
  .rw[y]at a;cases a
  .rw[z]at a;cases a
  .rw[A]at a;cases a
 .have:t=0\/t=1\/t=2\/t=3:=by omega
  rcases this with rfl|rfl|rfl|rfl
  .refine⟨L,⟨fun j v=>?_,fun j v=>Qc (I j v)⟩,M,⟨n,r,fun x u p F=>(c x u).2 p F,o,fun x u=>(c x u).1⟩,e,l,⟨q,fun i b=>?_,m,w⟩,g,fun i b=>⟨(d i b).1,fun D=>(d i b).2.resolve_left (fun J=>J D)⟩⟩
   .have:=r j v;omega
   .have:=s i (by omega);rw[zi,zh b,uK]at this;simpa using this
  .rw[y]at a;cases a
  .rw[z]at a;cases a
  .rw[A]at a;cases a
theorem Lp: iq gS fs2.fo 80 fs2.nodes=true:=by kernel_rfl
theorem OZ: encF (foB (sS gS))=encF fs2.fo:=by kernel_rfl
theorem Ia: sY gS (fs2.fo.nd 0) 32=fs2.nodes:=by kernel_rfl
theorem VR: lT gS fs2.fo 80:=Qw Lp OZ Ia
theorem RQ (k):dirB (fs0 k) 0=[]:=YY k 0 (by omega)
theorem W8: ∃A,SI fs1 1 A/\GI A fun _=>0:=by obtain⟨A,a,b,_⟩:=(kT (k:=80) (by omega) (by omega)).addM kU (by omega) (i:=0) (by omega) rfl (k:=1) (m:=420) (u:=0) (gg:=0) (by omega) ⟨ye _,fun y c=>zY c yK⟩ (fun h=>by omega) [] nmA;exact⟨A,a,b⟩
theorem X4: un fDt:=Uo (by kernel_rfl)
theorem O1: ∃A,SI fs2 2 A/\GI A fun _=>0:=by obtain⟨A,h,g⟩:=W8;obtain⟨B,a,b,_⟩:=h.wrtM g (by omega) (i:=1) (by omega) 3 X4;exact⟨B,a,b⟩
theorem O0 (n) (b:pb (fs0 80)=some n):pN (fs0 80) 0 n (newP 1 420 0 0 0) [] nmA:=((kT (k:=80) (by omega) (by omega)).add kU (by omega) (i:=0) (by omega) rfl b (by omega) ⟨ye _,fun y a=>zY a yK⟩ (fun _=>rfl) nmA).1
theorem fs1_k1: (fs1.nodes.getD 1 zN).k=1:=by kernel_rfl
theorem OY: kK fs1 1 3 fDt:=by obtain⟨A,h,g⟩:=W8;exact (h.write g (by omega) (i:=1) (by omega) ((h.A_at (by omega)).1.symm.trans fs1_k1) (by decide) (by decide) X4).1
theorem fs2_n0: fs2.nodes[0]?=some fX0:=by kernel_rfl
theorem Yp: fs2.nodes[1]?=some fX1:=by kernel_rfl
theorem fs2_k: fs2.k=80:=by kernel_rfl
theorem Lo: nj (tO (secE fs2) fX1.P fX1.s) 2 9=[0,120,121,122]:=by kernel_rfl
theorem Lm: nj (tO gS fX1.P fX1.s) 0 9=[0,0,0,120,121,122]:=by kernel_rfl
theorem My: tO gS fX0.P fX0.s=fD1:=by kernel_rfl
theorem kW: un fD1/\sU fD1=true/\(vB fD1 nmA).1=2/\(vB fD1 nmA).2.2=0:=⟨Uo (by kernel_rfl),by kernel_rfl,by kernel_rfl,by kernel_rfl⟩
theorem Jl {w':World} (h:vQ w v D) (m:∀b,v.ownBlock=some b->¬F b) (n:yQ F w w'):vQ w' v D:=by obtain⟨k,i⟩:=h;refine⟨k,i.imp id ?_⟩;rintro ⟨g,c,d,rfl,e⟩;refine⟨g,c,d,rfl,fun j x f=>?_⟩;have a:=zG (e j x f);have l:=n.block g a (m g rfl);rw[<-e j x f];unfold World.cell?;simp only;rw[l]
theorem byteT5: prog.underlying 5=some (.int .u8):=by kernel_rfl
theorem Rf: prog.underlying 9=some .string:=by kernel_rfl
theorem u8sT5: prog.underlying 56=some (.slice 5):=by kernel_rfl
theorem Vf (l:List Int) (h:0<l.length) (e:vQ w v l):(convert 56 9 v).run prog w=.ok (.string (sE l)) w:=by
 obtain⟨b,⟨d,_⟩|⟨g,o,c,rfl,a⟩⟩:=e
 .omega
 .exact Yh w _ _ _ g o c l.length l rfl u8sT5 byteT5 Rf a
theorem UP (n:Nat) (a:n<80):secE fs4 n=gS n:=Vv VQ n a
theorem fDt_at (w:World):vQ (w.alloc (.cells #[.int .u8 120,.int .u8 121,.int .u8 122] 5 (3,4))) (.slice (some ⟨w.heap.size,0,none⟩) 3 3) fDt:=
 pD (by decide) (zH) rfl
theorem QX (h:vQ w v D) (f:0<D.length) (b:Nat) (i:v.ownBlock=some b):b<w.heap.size:=by
 obtain⟨_,⟨d,_⟩|⟨g,o,c,rfl,a⟩⟩:=h
 .omega
 .have e:g=b:=by simpa[Value.ownBlock]using i
  rw[<-e];exact zG (a 0 _ (qg D 0 f))
theorem QB (j:Nat) (a:j<16):0<=fs2.fo.nd 0 j/\fs2.fo.nd 0 j<((80:Nat):Int):=by have:=VR.load.nds 0 j (by omega) a VR.load.root;omega
theorem Gl: sY (sec fdk'.N) (fs2.fo.nd 0) 32=fs2.nodes:=(Ir QB (Vv VQ)).trans Ia
theorem Jj: lT (sec fdk'.N) fs2.fo 80:=VR.congr (by omega) (Vv VQ)
theorem Mz: ∀X∈fs2.nodes,X.k=0\/X.l≠0:=by
 have h:(fs2.nodes.all fun X=>decide (X.k=0)||!decide (X.l=0))=true:=by kernel_rfl
 intro X a;have:=yW.1 h X a;simpa using this
theorem Yu (P:List Int) (p:Int) (h:P=[p]) (b:37<=p) (c:p<((80:Nat):Int)):∀q∈P,q=0\/(37<=q/\q<((80:Nat):Int)):=fun q a=>by rw[h]at a;rw[xt.1 a];exact zu ⟨b,c⟩
theorem Ll: tO (secE fs4) fX0.P fX0.s=fD1:=(Jq (Yu fX0.P 53 rfl (by omega) (by omega)) UP _).trans My
theorem L8: nj (tO (secE fs4) fX1.P fX1.s) 0 9=[0,0,0,120,121,122]:=by rw[Jq (Yu fX1.P 54 rfl (by omega) (by omega)) UP];exact Lm
theorem W7 (w:World):Calls prog 15 #[] w (fun e w'=>e=.returned (.bool true)/\Below w w w'):=by
 have aC:=za (KO 80 (by omega) (by omega) w);go_enter func15,ntmps15;go_wp2_with fail
 refine aC.o.mono ?_;rintro e w1 ⟨x,a,F1,rfl,h1,ar,ai⟩;have I:=za ar;have H:=(kT (k:=80) (by omega) (by omega)).dirS kU (i:=0) (by omega) rfl;rw[RQ]at H;have G:=fG h1 0 _ _ H nmA (by kernel_rfl) 1 420 0 0 (zr rfl) (by omega) (by omega) (by omega) (fun _ n Q=>O0 n Q);rw[IR.1]at G;have aN:Hid (Calls prog 49 #[(x,()),(1:Int),.string ⟨#[97]⟩,(1:Int),(420:Int),(),()] w1
  (fun e w'=>e=.returned (.tuple #[(2:Int),()])/\uB w1 x fs1 F1 a w')):=G
 have X:=za ai;clear h1 ar ai H G;go_wp2_with fail
 refine aN.o.mono ?_;rintro e U ⟨rfl,F2,h2,f2,k2⟩;have aq:Hid (∀i,F2 i->w.heap.size<=i):=fun i J=>(f2 i J).elim (X.o i) (fun h=>zt I.o.size h);have ac:Hid (Below w w U):=I.o.trans (k2.to_below X.o I.o.size);have aG:Hid (∀(W:World) (v:Value),Below U U W->sx W v fDt->Calls prog 43 #[(x,()),(2:Int),(3:Int),v] W
  (fun e w'=>e=.returned (.tuple #[(3:Int),()])/\uB W x fs2 F2 a w')):=fun W v f hv=>by
  have hw:=WX (h2.below f) 1 (by omega) 3 (by omega) v fDt hv (by decide) (fun _ _ _=>OY);rw[IR.2]at hw;exact hw
 clear h2 k2 f2;have kc:=Lib.run_convert_bytes_const (P:=prog) U 56 5 #[.int .u8 120,.int .u8 121,.int .u8 122] 3 3 nO uI;go_wp2_with fail
 refine (aG.o _ _ (zB.alloc zL _) ?_).mono ?_
 .exact⟨fDt_at U,fun q n c h=>by injection h with h1 h2 R;omega⟩
 rintro e m ⟨rfl,F,R,f3,k3⟩;have A:Hid (Below w w (U.alloc (.cells #[.int .u8 120,.int .u8 121,.int .u8 122] 5 (3,4)))):=ac.o.alloc ac.o.size _;have HF:Hid (∀i,F i->w.heap.size<=i):=fun i J=>(f3 i J).elim (aq.o i) (fun h=>zt A.o.size h);have aM:Hid (Below w w m):=A.o.trans (k3.to_below aq.o A.o.size);have y:=za R.fin;obtain⟨A2,B,aB⟩:=O1;have aD:Hid (Calls prog 34 #[(x,()),(2:Int),(2:Int),(9:Int)] m
  (fun e w'=>∃v,e=.returned (.tuple #[v,()])/\vQ w' v (nj (tO (secE fs2) fX1.P fX1.s) 2 9)/\(∀b,v.ownBlock=some b->m.heap.size<=b)/\Below m m w')):=
  IP R B.byteE 1 (by omega) fX1 Yp rfl (fun p hp=>by rw[xt.1 hp,fs2_k];exact⟨by decide,by decide⟩) (by decide) (by decide) 2 9 (by omega) (by omega) (by omega)
 have H3:=za R;obtain⟨o1,o2,o3,o4⟩:=B.syncOk (by omega);have aQ:=za (fun (W:World) (f:Below m m W)=>i9 (R.below f) o1 o2 o3 o4);clear R k3 f3 o1 o2 o3 o4 B aB;go_wp2_with fail
 refine aD.o.mono ?_;rintro e w4 ⟨S,rfl,r,O,u⟩;rw[Lo]at r;have aP:=za r;have b8:=za O;have aY:=za (aQ.o w4 u);have ak:Hid (Below w w w4):=zf aM.o u;have ae:Hid (m.heap.size<=w4.heap.size):=u.size;have g:Hid (∀b,S.ownBlock=some b->m.heap.size<=b/\b<w4.heap.size):=fun b l=>⟨O b l,QX r (by decide) b l⟩;clear r O u;go_wp2_with fail
 refine aY.o.mono ?_;rintro e w5 ⟨rfl,h5,k5⟩;obtain⟨⟨gl,rv,nv,bt,bh,E,tl,FD,g1,g2,g3,g4,g5,g6,g7,g8,g9,aH,ax,aW,aU,a9,ay,aE,a8⟩,a1,a2,a3,a4,a5,a6,a7⟩:=h5;have ah:=za g3;have ab:uS w5 (.pointer (some a)) fs3.dk 80 FD:=by rw[show (mE fs2).k=80 from fs2_k]at g2;exact g2
 have aZ:=za (QQ ab (.slice none 0 0) [] (fun w' _=>⟨rfl,zr ⟨rfl,none,0,rfl⟩⟩) (by simp));have t:=za k5;clear ab g1 g2 g3 g4 g5 g6 g7 g8 g9 aH ax aW aU a9 ay aE a8 a1 a2 a3 a4 a5 a6 a7 k5;go_wp2_with fail
 refine aZ.o.mono ?_;rintro e w6 ⟨rfl,F6,d6,f6,k6⟩;have aX:Hid (Calls prog 47 #[.pointer (some a)] w6
  (fun e w'=>∃x F',e=.returned (.tuple #[.pointer (some ⟨x,0,none⟩),()])/\FsAt w' x fs4 F' a/\yQ F6 w6 w'/\(∀i,F' i->F6 i\/w6.heap.size<=i))):=by
  have hd:=MA;simp only[yL,xw]at hd;obtain⟨⟨⟨⟨e1,e2⟩,e3⟩,e4⟩,e5⟩:=hd;have aK:rn (sec fdk'.N 4)=[]:=by rw[Vv VQ 4 (by omega)];kernel_rfl
  have hm:=XL d6 (by omega) (by omega) fdk' (seqO fdk.N) (fun W f=>XI (by omega) (by omega) (d6.below f) (Uo e2) (Qq e3) (by show fdk.W.length<_;rw[e5];omega)) e1
   (fun n Q=>by rw[Vv VQ n Q];exact Y1 n Q) fs2.fo Jj.load (by have:=Jj.tree 0 (by omega) VR.load.root;obtain⟨_,h⟩:=this;exact h.tree) Jj.quota
   (by rw[Gl];exact Mz)
  rw[aK]at hm;rw[Gl]at hm;exact hm
 have L:=za k6;have aj:=za f6;clear d6 f6 k6;go_wp2_with fail
 refine aX.o.mono ?_;rintro e d ⟨an,F7,rfl,h7,k7,f7⟩;have K:=za k7;have b6:=za f7;have j:le fs4:=fun n Q=>by rw[UP n Q];exact Y1 n Q
 have C:=XY h7 0 fX0 fD1 ⟨by omega,fs2_n0,rfl,by decide,fun p hp=>by rw[xt.1 hp];exact⟨by decide,by decide⟩,by decide,by decide,Ll,kW.1,kW.2.1⟩ nmA (by kernel_rfl);rw[kW.2.2.1,kW.2.2.2]at C;have aO:Hid (Calls prog 36 #[(an,()),(1:Int),.string ⟨#[97]⟩] d (fun e w'=>e=.returned (.tuple #[(2:Int),()])/\Below d d w')):=C;have Z:Hid (∀W,Below d d W->Calls prog 34 #[(an,()),(2:Int),(),(9:Int)] W
  (fun e w'=>∃v,e=.returned (.tuple #[v,()])/\vQ w' v (nj (tO (secE fs4) fX1.P fX1.s) 0 9)/\(∀b,v.ownBlock=some b->W.heap.size<=b)/\Below W W w')):=fun W f=>
  IP (h7.below f) j 1 (by omega) fX1 Yp rfl (fun p hp=>by rw[xt.1 hp];exact⟨by decide,by decide⟩) (by decide) (by decide) 0 9 (by omega) (by omega) (by omega)
 have aA:=za (fun W (f:Below d d W)=>Qm (h7.below f) j (VR.congr (by omega) UP));clear h7 k7 f7 j C;go_wp2_with fail
 refine aO.o.mono ?_;rintro e w8 ⟨rfl,V⟩;have ag:=za V;clear V;go_wp2_with fail
 refine (Z.o w8 ag.o).mono ?_;rintro e T ⟨v9,rfl,M,aR,aa⟩;rw[L8]at M;have D:Hid (Below d d T):=zf ag.o aa;have aV:Hid (∀W:World,Below T T W->(convert 56 9 v9).run prog W=.ok (.string ⟨#[0,0,0,120,121,122]⟩) W):=fun W f=>Vf [0,0,0,120,121,122] (by decide) (M.below f);have aL:Hid (∀W:World,Below d d W->(convert 56 9 S).run prog W=.ok (.string ⟨#[0,120,121,122]⟩) W):=fun W f=>by
  have z3:=ae.o;have z5:=t.o.size;have e5:vQ w5 S [0,120,121,122]:=Jl aP.o (fun b l Y=>by have:=g.o b l;have:=y.o b Y;omega) t.o;have nD:∀b,S.ownBlock=some b->¬FD b:=fun b l Y=>by
   have:=g.o b l;rcases ah.o b Y with h|h
   .have:=y.o b h;omega
   .omega
  have e6:vQ w6 S [0,120,121,122]:=Jl e5 nD L.o;have e7:vQ d S [0,120,121,122]:=Jl e6 (fun b l Y=>by
   have:=g.o b l;rcases aj.o b Y with h|h
   .exact nD b l h
   .omega) K.o
  exact Vf [0,120,121,122] (by decide) (e7.below f)
 have h1:=aL.o T D.o;have h2:=aV.o T zB;have az:=za (aA.o T D.o);clear M aR aa;go_wp2_with fail
 refine az.o.mono ?_;rintro e am ⟨rfl,z⟩;have al:Hid (Below d d am):=zf D.o z;clear z h1 h2;have aT:Hid (Below w w am):=by
  have z4:=ak.o.size;have z5:=t.o.size;have z6:=L.o.size;have z7:=K.o.size;have y5:=ak.o.trans (t.o.to_below HF.o (by omega));have nD:∀i,FD i->w.heap.size<=i:=fun i J=>by
   rcases ah.o i J with h|h
   .exact HF.o i h
   .omega
  have y6:=y5.trans (L.o.to_below nD (by omega));have y7:=y6.trans (K.o.to_below (fun i J=>(aj.o i J).elim (nD i) (fun h=>by omega)) (by omega));exact zf y7 al.o
 go_wp2;go_ret;exact⟨rfl,aT.o⟩
open Go.ChangeAt Go.ChangeShapes Go.Deep Go.WideShapes
section
variable {H : Type} {enc : TypeId×Value->H} {P : Program} {w : World} {base : Nat} {spare : Nat->Bool} {held : Bool}
theorem N2 {fuel:Nat} {cs:List Value} {x:DataW H×List MemPlace} (R:P.underlying t=some (.slice e)) (S:P.underlying e=some (.struct #[f0,f1,f2,f3,f4]))
 (T:P.cellsOf e=5) (U:f0.offset=0) (V:f1.offset=1) (o2:f2.offset=2) (W:f3.offset=3) (X:f4.offset=4) (Y:P.cellsOf f0.type=1) (Z:P.cellsOf f1.type=1) (c2:P.cellsOf f2.type=1) (c3:P.cellsOf f3.type=1) (c4:P.cellsOf f4.type=1)
 (h:DataW.trod enc P w base spare held fuel t cs=some x):
 cs=[.slice none 0 0] \/
 ∃(a:Addr) (len cap n:Nat),cs=[.slice (some a) len cap]/\len<=cap/\cap<=maxLen /\
  ∀i,i<len->∃(v0 v1 v2 v3 v4:Value) (y0 y1 y2 y3 y4:DataW H×List MemPlace),w.cell? (a.add (i*5))=some v0/\w.cell? (a.add (i*5+1))=some v1/\w.cell? (a.add (i*5+2))=some v2/\w.cell? (a.add (i*5+3))=some v3/\w.cell? (a.add (i*5+4))=some v4 /\
   DataW.trod enc P w base spare held n f0.type [v0]=some y0/\DataW.trod enc P w base spare held n f1.type [v1]=some y1/\DataW.trod enc P w base spare held n f2.type [v2]=some y2/\DataW.trod enc P w base spare held n f3.type [v3]=some y3/\DataW.trod enc P w base spare held n f4.type [v4]=some y4:=by
 rcases open_slice R h with E|⟨a,len,cap,m,n,D,Q,rfl,M,G,L,g,rfl,K⟩
 .exact zr E.1
 right;have I:len<=m:=by rw[g];split<;>omega
 refine⟨a,len,cap,n-1,rfl,G,L,fun i O=>?_⟩;obtain⟨l,r,C⟩:=K i (by omega);rw[T]at r;obtain⟨_,c,b⟩:=World.cells?_some r;obtain⟨J,k,N,F,_,f,d⟩:=DataW.trod_struct S C;have j:k=n-1:=by omega
 subst j
 match J,f,l,c with
 | [y0,y1,y2,y3,y4],_,[v0,v1,v2,v3,v4],_=>
  have q:=d 0 f0 rfl;have v:=d 1 f1 rfl;have p:=d 2 f2 rfl;have B:=d 3 f3 rfl;have u:=d 4 f4 rfl;simp[U,V,o2,W,X,Y,Z,c2,c3,c4]at q v p B u;have o:=b 0 (by omega);have y:=b 1 (by omega);have s:=b 2 (by omega);have z:=b 3 (by omega);have A:=b 4 (by omega);rw[add_add]at o y s z A;exact⟨v0,v1,v2,v3,v4,y0,y1,y2,y3,y4,by simpa using o,by simpa using y,by simpa using s,by simpa using z,by simpa using A,q,v,p,B,u⟩
end
theorem Y8 (l):(dos l).length=l.length*5:=by
 induction l with
 | nil=>rfl
 | cons y l a=>
  show (dos l).length+5=_;rw[a,yx];omega
theorem O5 (l) (j) (x) (h:(dos l)[j]?=some x):∃k,∃hk,(j=k*5/\x=.int .i64 l[k].K)\/(j=k*5+1/\x=.int .i64 l[k].A)\/(j=k*5+2/\x=.int .i64 l[k].B)\/(j=k*5+3/\x=.int .i64 l[k].C)\/(j=k*5+4/\x=.string l[k].S):=by
 have b:=(zJ.1 h).1;rw[Y8]at b;have hk:j / 5<l.length:=by omega
 have a:=gu l (j / 5) hk;refine⟨j / 5,hk,?_⟩;rcases (by omega:j=j / 5*5\/j=j / 5*5+1\/j=j / 5*5+2\/j=j / 5*5+3\/j=j / 5*5+4) with e|e|e|e|e<;>rw[<-e,h]at a
 .exact zr ⟨e,by simpa using a.1⟩
 .exact zu (zr ⟨e,by simpa using a.2.1⟩)
 .exact zu (zu (zr ⟨e,by simpa using a.2.2.1⟩))
 .exact zu (zu (zu (zr ⟨e,by simpa using a.2.2.2.1⟩)))
 .exact zu (zu (zu (zu ⟨e,by simpa using a.2.2.2.2⟩)))
theorem qza {H:Type} {enc':TypeId×Value->H} {P:Program} {base:Nat} {held:Bool} {r:Reach} {b0:Nat} {d:DataW H} {ps:List MemPlace}  
 (ht:P.underlying t=some (.slice e)) (he:P.underlying e=some (.struct #[f0,f1,f2,f3,f4])) (ce:P.cellsOf e=5) (o0:f0.offset=0) (o1:f1.offset=1) (o2:f2.offset=2) (o3:f3.offset=3) (o4:f4.offset=4) (c0:P.cellsOf f0.type=1) (c1:P.cellsOf f1.type=1) (c2:P.cellsOf f2.type=1) (c3:P.cellsOf f3.type=1) (c4:P.cellsOf f4.type=1)
 (u0:P.underlying f0.type=some (.int .i64)) (u1:P.underlying f1.type=some (.int .i64)) (u2:P.underlying f2.type=some (.int .i64)) (u3:P.underlying f3.type=some (.int .i64)) (u4:P.underlying f4.type=some .string)
 (aa:Value.okWide P w r b0 t v) (hd:DataW.Trod enc' P w base (fun _=>true) held t v d ps):
 ∃l,pM w v l/\l.length<=maxLen/\∀x,x∈l->x.S.size<=maxLen:=by
 obtain⟨a0,m,s,rfl⟩:=okWide_slice ht aa;obtain⟨Q,hf⟩:=hd;rcases N2 ht he ce o0 o1 o2 o3 o4 c0 c1 c2 c3 c4 hf with q|⟨a,aq,af,n,q,al,Y,O⟩
 .simp[Value.cells]at q;obtain⟨rfl,rfl,rfl⟩:=q;exact⟨[],⟨rfl,zr ⟨rfl,_,_,rfl⟩⟩,ye _,by simp⟩
 .simp[Value.cells]at q;obtain⟨rfl,rfl,rfl⟩:=q;rcases vn m with L|L
  .subst L;exact⟨[],⟨rfl,zr ⟨rfl,_,_,rfl⟩⟩,ye _,by simp⟩
  .obtain⟨g,b,p⟩:=a;have hs:p=none:=(by obtain⟨v0,_,_,_,_,_,_,_,_,_,hh,_⟩:=O 0 (by omega);have:=World.cell?_spot hh;simpa[Addr.add]using this);subst hs;have G:∀i,∃z:DoI,i<m->w.cell? ⟨g,b+i*5,none⟩=some (.int .i64 z.K)/\w.cell? ⟨g,b+(i*5+1),none⟩=some (.int .i64 z.A)/\w.cell? ⟨g,b+(i*5+2),none⟩=some (.int .i64 z.B)/\w.cell? ⟨g,b+(i*5+3),none⟩=some (.int .i64 z.C)/\w.cell? ⟨g,b+(i*5+4),none⟩=some (.string z.S)/\z.S.size<=maxLen:=fun i=>by
    by_cases N:i<m
    .obtain⟨v0,v1,v2,v3,v4,y0,y1,y2,y3,y4,o,f,E,F,I,k0,W,k2,k3,k4⟩:=O i N;obtain⟨z0,J,_⟩:=qO u0 k0;obtain⟨z1,T,_⟩:=qO u1 W;obtain⟨z2,M,_⟩:=qO u2 k2;obtain⟨z3,U,_⟩:=qO u3 k3;obtain⟨z4,V,_,X⟩:=DataW.trod_string u4 k4;rw[add_plain]at o f E F I;simp at J T M U V;rw[J]at o;rw[T]at f;rw[M]at E;rw[U]at F;rw[V]at I;exact⟨⟨z0,z1,z2,z3,z4⟩,fun _=>⟨o,f,E,F,I,X⟩⟩
    .exact⟨⟨0,0,0,0,ByteArray.empty⟩,fun h=>zY h N⟩
   obtain⟨Z,R⟩:=Classical.axiomOfChoice G;have c:((List.range m).map Z).length=m:=(by simp);refine⟨(List.range m).map Z,⟨Y8 _,zu ⟨g,b,s,by rw[c],fun j x hj=>?_⟩⟩,by rw[c];omega,fun x u=>?_⟩
   .obtain⟨k,D,o⟩:=O5 _ j x hj;have y:k<m:=(by rwa [c]at D);have f:=R k y;simp only[uO,List.getElem_range]at o;rcases o with⟨rfl,rfl⟩|⟨rfl,rfl⟩|⟨rfl,rfl⟩|⟨rfl,rfl⟩|⟨rfl,rfl⟩
    .exact f.1
    .exact f.2.1
    .exact f.2.2.1
    .exact f.2.2.2.1
    .exact f.2.2.2.2.1
   .obtain⟨k,D,rfl⟩:=zU.1 u;exact (R k (by simpa using D)).2.2.2.2.2
