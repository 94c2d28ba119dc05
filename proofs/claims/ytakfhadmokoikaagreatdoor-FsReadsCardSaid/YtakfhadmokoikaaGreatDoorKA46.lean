import Derived.Test.YtakfhadmokoikaaGreatDoorKA44
import Derived.Test.YtakfhadmokoikaaGreatDoorKA45
import Derived.Lib.ConvBytes
import Derived.Laws.IdiomCopy
set_option maxHeartbeats 0
set_option linter.all false
set_option maxRecDepth 100000
namespace Go.Proofs.YtakfhadmokoikaaGreatDoor
open Go.Proofs.Tryz Go.RowKit
variable {D Dt:List Int} {F:Nat->Prop} {L:List Pn} {a:Addr} {b cap gf k:Nat} {gg m u:Int} {nd:Nat->Int} {s:Fs} {v:Value} {w:World}
abbrev r9:=@Lib.bytesWorld_at_new
abbrev tN:=@Lib.run_convert_string_bytes
def strI (s:ByteArray):List Int:=s.data.toList.map fun b=>(b.toNat:Int)
def symM (s:Fs) (i:Nat) (D:List Int) (name tells:ByteArray) (u g:Int):(Int×Int)×Fs:=
 if 64<tells.size then ((0,1),s) else addM s i D name 3 511 u g (strI tells)
theorem PX (w:World) (i:Int) (name c:ByteArray) (u g:Int) (d:(c.toList==[])=false) (f:64<c.size):
 Calls prog 66 #[(gf,()),i,.string name,.string c,u,g] w (fun e w'=>e=.returned (.tuple #[(),(1:Int)])/\w=w'):=by
 have b:decide ((64:Int)<(c.size:Int))=true:=yf (by omega);have a:(64:Int)<(c.size:Int):=by omega
 go_enter func66,ntmps66
 go_wp2;go_ret2;simp
theorem Kv (w:World) (S:ByteArray):Below w w (Lib.bytesWorld w 5 S):=⟨rfl,rfl,rfl,by rw[Lib.bytesWorld_size];omega,fun k a=>Lib.bytesWorld_at_old _ _ _ _ a⟩
theorem kR (w:World) (j:ByteArray):tQ (Lib.bytesWorld w 5 j) (w.heap.size,0,j.size,(grownCap w j.size 0 5)) (strI j):=by
 have a:(strI j).length=j.size:=by unfold strI;rw[yw,yp];rfl
 refine⟨⟨by simp[u8s],zu ⟨w.heap.size,0,grownCap w j.size 0 5,by rw[a],fun r u d=>?_⟩⟩,fun p n c f=>?_⟩
 .have b:r<j.size:=by have:=(zy.1 d).1;rw[vO,a]at this;exact this
  rw[yL,Lib.bytesWorld_cell w _ j r b];rw[sJ _ _ (by rw[a];exact b)]at d;injection d with d;rw[<-d];have e:r<j.data.toList.length:=by rw[yp];exact b
  simp only[strI,uH];rw[zh,zf e];rfl
 .injection f with i h g;rw[<-h,<-g];exact sD _ _ _ _
theorem Tg (h:FsAt w gf s F a) (i:Nat) (X:Pn) (D:List Int) (N:DirS s i X D) (name:ByteArray) (K:ru name=true) (I:ByteArray) (L:(I.toList==[])=false) (u g:Int) (O:0<=u/\u<=255) (Q:0<=g/\g<=255)
 (J:I.size<=64->rY D name=0->∀n,qt s=some n->pD s i n (newP 3 511 u g i) (strI I) name):
 Calls prog 66 #[(gf,()),.int .i64 ((i:Int)+1),.string name,.string I,u,g] w
  (fun e w'=>e=.returned (.tuple #[.int .i64 (symM s i D name I u g).1.1,.int .i64 (symM s i D name I u g).1.2])/\uk w gf (symM s i D name I u g).2 F a w'):=by
 unfold symM;by_cases f:64<I.size
 .rw[ze f];exact (PX w _ name I u g L f).mono fun e w' ⟨r,d⟩=>⟨r,d▸uk.same h zB⟩
 rw[zb f];have x:=tN (P:=prog) w 9 23 5 I uD uY vP;have b:=Kv w I;have k:(strI I).length=I.size:=by unfold strI;rw[yw,yp];rfl
 have c:=kR w I;have l:=Lib.hid b;have p:=Lib.hid (Yn (h.below b) i X D N name K 3 511 u g (w.heap.size,0,I.size,(grownCap w I.size 0 5)) (strI I) c (by rw[k];omega) (fun q j=>by injection j with j;have y:w.heap.size=q:=j;rw[Lib.bytesWorld_size];omega) (J (by omega)));obtain⟨M,m⟩:∃M,addM s i D name 3 511 u g (strI I)=M:=⟨_,rfl⟩;rw[m]at p ⊢;obtain⟨⟨B,E⟩,C⟩:=M;have A:decide ((64:Int)<(I.size:Int))=false:=zK (by omega);have G:¬(64:Int)<(I.size:Int):=by omega
 have t:=Lib.hid (kG u g O Q w);clear m h N J c b O Q;go_enter func66,ntmps66;go_wp2_with fail
 refine t.o.mono ?_;rintro e z ⟨rfl,rfl⟩;go_wp2_with fail
 refine p.o.mono ?_;rintro e H ⟨rfl,d⟩;have v:=Lib.hid (d.after l.o);clear d;go_wp2;go_ret2;exact⟨rfl,v.o⟩
structure DoI where
 K:Int
 A:Int
 B:Int
 C:Int
 S:ByteArray
def atN (s:Fs) (x:Int):Nat:=((qX s).getD (pk x (qX s).length).toNat 0-1).toNat
def inoN (s:Fs) (x:DoI):Int:=(vz (dirB s (atN s x.A)) (nmOf x.B)).1
def tS (S:ByteArray):ByteArray:=⟨#[116]⟩++S
def doM (s:Fs) (x:DoI):Int×Fs:=
 let i:=atN s x.A
 let j:=atN s x.B
 let n:=(inoN s x-1).toNat
 let D:=dirB s i
 let E:=dirB s j
 match (pk x.K 12).toNat with
 | 0=>((addM s i D (nmOf x.B) 1 420 (pk x.C 3) 0 []).1.2,(addM s i D (nmOf x.B) 1 420 (pk x.C 3) 0 []).2)
 | 1=>((addM s i D (nmOf x.B) 2 493 (pk x.C 3) 0 []).1.2,(addM s i D (nmOf x.B) 2 493 (pk x.C 3) 0 []).2)
 | 2=>if inoN s x=0 then (4,s) else ((wrtM s n (pk x.C 512).toNat (strI x.S)).1.2,(wrtM s n (pk x.C 512).toNat (strI x.S)).2)
 | 3=>unlM s i D (nmOf x.B)
 | 4=>movM s i j D E (nmOf x.C) (nmOf x.B)
 | 5=>if inoN s x=0 then (4,s) else cutM s n (pk x.C 512).toNat
 | 6=>if inoN s x=0 then (4,s) else lnkM s j n E (nmOf x.C)
 | 7=>((symM s i D (nmOf x.B) (tS x.S) (pk x.C 3) 0).1.2,(symM s i D (nmOf x.B) (tS x.S) (pk x.C 3) 0).2)
 | 8=>if inoN s x=0 then (4,s) else ownM s n (pk x.C 3) 0
 | 9=>pF s (pk x.B 3) (pk x.C 20-1)
 | 10=>(0,mB s)
 | _=>if pk x.B 2=0 then ((lG s).1.2,(lG s).2) else js s (1+pk x.C 3).toNat
structure DoOk (s:Fs) (x:DoI):Prop where
 len:x.S.size<=300
 c0:pk x.K 12=0->rY (dirB s (atN s x.A)) (nmOf x.B)=0->∀n,qt s=some n->pD s (atN s x.A) n (newP 1 420 (pk x.C 3) 0 (atN s x.A)) [] (nmOf x.B)
 c1:pk x.K 12=1->rY (dirB s (atN s x.A)) (nmOf x.B)=0->∀n,qt s=some n->pD s (atN s x.A) n (newP 2 493 (pk x.C 3) 0 (atN s x.A)) [] (nmOf x.B)
 c2:pk x.K 12=2->inoN s x≠0->(s.nodes.getD (inoN s x-1).toNat zN).k=1->(pk x.C 512).toNat+(strI x.S).length<=512->0<(strI x.S).length->kj s (inoN s x-1).toNat (pk x.C 512).toNat (strI x.S)
 c3:pk x.K 12=3->(vz (dirB s (atN s x.A)) (nmOf x.B)).2.2=0->¬((s.nodes.getD ((vz (dirB s (atN s x.A)) (nmOf x.B)).1-1).toNat zN).k=2/\0<(s.nodes.getD ((vz (dirB s (atN s x.A)) (nmOf x.B)).1-1).toNat zN).s)->mW s (atN s x.A) ((vz (dirB s (atN s x.A)) (nmOf x.B)).1-1).toNat (nmOf x.B)
 up:∀X∈s.nodes,0<=X.up/\X.up<=32
 c4:pk x.K 12=4->(vz (dirB s (atN s x.A)) (nmOf x.C)).2.2=0->movO (dirB s (atN s x.B)) (nmOf x.B)≠some ((vz (dirB s (atN s x.A)) (nmOf x.C)).1-1).toNat->movE s (atN s x.B) ((vz (dirB s (atN s x.A)) (nmOf x.C)).1-1).toNat (movO (dirB s (atN s x.B)) (nmOf x.B))=0->kr s (atN s x.A) (atN s x.B) ((vz (dirB s (atN s x.A)) (nmOf x.C)).1-1).toNat (nmOf x.C) (nmOf x.B) (movO (dirB s (atN s x.B)) (nmOf x.B))
 c5:pk x.K 12=5->inoN s x≠0->(s.nodes.getD (inoN s x-1).toNat zN).k=1->j7 s (inoN s x-1).toNat (pk x.C 512).toNat
 c6:pk x.K 12=6->inoN s x≠0->(0<=(s.nodes.getD (inoN s x-1).toNat zN).l/\(s.nodes.getD (inoN s x-1).toNat zN).l<=200)/\((s.nodes.getD (inoN s x-1).toNat zN).k≠0->(s.nodes.getD (inoN s x-1).toNat zN).k≠2->(s.nodes.getD (inoN s x-1).toNat zN).l≠0->(s.nodes.getD (inoN s x-1).toNat zN).l≠200->rY (dirB s (atN s x.B)) (nmOf x.C)=0->j6 s (atN s x.B) (inoN s x-1).toNat (nmOf x.C))
 c7:pk x.K 12=7->(tS x.S).size<=64->rY (dirB s (atN s x.A)) (nmOf x.B)=0->∀n,qt s=some n->pD s (atN s x.A) n (newP 3 511 (pk x.C 3) 0 (atN s x.A)) (strI (tS x.S)) (nmOf x.B)
 c8:pk x.K 12=8->inoN s x≠0->(s.nodes.getD (inoN s x-1).toNat zN).k≠0->rN s ((tx0 s).setX (inoN s x-1).toNat (chgP (s.nodes.getD (inoN s x-1).toNat zN) (pk x.C 3) 0))
 q:okQ s.rows=true
 c9:pk x.K 12=9->pi s.rows (pk x.B 3) (pk x.C 20-1)=false->(setQ s.rows (pk x.B 3) (pk x.C 20-1)).length<=20/\rN s {tx0 s with rows:=setQ s.rows (pk x.B 3) (pk x.C 20-1)}
 c10:pk x.K 12=10->kK s
 c11:pk x.K 12=11->(sU s.fo).2.2=0->rN s {tx0 s with fo:=(sU s.fo).1}
 c12:pk x.K 12=11->vN s.fo (1+pk x.C 3).toNat=true->rN s {tx0 s with fo:=delT s.fo (1+pk x.C 3).toNat}
section
variable {s : Fs} {n c i : Nat} {A : Nat->AN}
theorem KJ {s:Fs}:∀{l:List En} {out:List Int},out.Nodup->(qp s out l).Nodup
 | [],_,h=>h
 | x::l,out,h=>by
  unfold qp;split
  .rename_i e;refine KJ (wZ.2 ⟨h,by simp,fun a d b c=>?_⟩);rw[xw]at c;subst c;rintro rfl;simp[d]at e
  .exact KJ h
theorem Xq (i:fW s):∀(f k:Nat) {out:List Int},DlOk s out->out.Nodup->0<out.length->DlOk s (pz s f k out)/\(pz s f k out).Nodup/\0<(pz s f k out).length
 | 0,_,_,a,b,c=>⟨a,b,c⟩
 | f+1,k,out,a,b,c=>by
  unfold pz;split
  .rename_i d;have e:=a (out.getD k 0) (by rw[zh,zf d.1];exact zz d.1);have g:=Ys (i.1 (out.getD k 0-1).toNat (by omega) e.2.2);have h:=Vn a g.2;exact Xq i f (k+1) h.1 (KJ b) (by omega)
  .exact⟨a,b,c⟩
theorem Xr (c:fW s):DlOk s (qX s)/\(qX s).Nodup/\0<(qX s).length/\(qX s).length<=32:=by
 have h:=Xq c 33 0 (out:=[1]) (fun n a=>by rw[xw]at a;subst a;exact⟨by omega,by omega,c.2⟩) (by simp) (by simp);refine⟨h.1,h.2.1,h.2.2,?_⟩;have:=Zm h.2.1 (ys:=(List.range 32).map fun j:Nat=>(j:Int)+1) fun z b=>by have:=h.1 z b;exact zV.2 ⟨(z-1).toNat,yT.2 (by omega),by omega⟩
 rw[yw,sF]at this;exact this
theorem lc (g:fW s) (y:Int):atN s y<32/\(s.nodes.getD (atN s y) zN).k=2:=by
 obtain⟨c,_,f,e⟩:=Xr g;have d:=ro y (qX s).length (by omega) (by omega);unfold atN;have a:(pk y (qX s).length).toNat<(qX s).length:=by omega
 have b:=c ((qX s).getD (pk y (qX s).length).toNat 0) (by rw[zh,zf a];exact zz a);exact⟨by omega,b.2.2⟩
theorem kT (S:ByteArray):(strI S).length=S.size/\ue (strI S):=by refine⟨by unfold strI;rw[yw,yp];rfl,fun y a=>?_⟩;obtain⟨b,_,rfl⟩:=zV.1 a;have:=b.toNat_lt;omega
theorem SI.found (n:SI s c A) (g:GI A fun _=>0) (l:i<32) (m:(A i).k=2) (name:ByteArray):
 (∃e∈outD (A i).D,e.1=name/\(vz (dirB s i) name).1=e.2/\(vz (dirB s i) name).2.2=0/\1<=e.2/\e.2<=32/\(A (e.2-1).toNat).k≠0)\/((∀e∈outD (A i).D,e.1≠name)/\(vz (dirB s i) name).1=0/\(vz (dirB s i) name).2.2=4):=by
 rw[(n.A_at l).2.2.2.2.2.2.2];rcases Oc (g.ok i l m) name with⟨e,b,f,d,j⟩|h
 .have a:e∈uK (A i):=by unfold uK;rw[ze m];exact b
  have:=g.to l a;exact zt ⟨e,b,f,d,j,this.1,this.2,g.ino i l e a⟩
 .exact zu h
theorem SI.ino (m:SI s c A) (g:GI A fun _=>0) (x:DoI) (h:inoN s x≠0):(inoN s x-1).toNat<32/\(A (inoN s x-1).toNat).k≠0:=by
 have d:=m.dirsOk g;obtain⟨b,i⟩:=lc d x.A;unfold inoN at h ⊢;rcases m.found g b ((m.A_at b).1.symm.trans i) (nmOf x.B) with⟨e,_,_,a,_,j,l,f⟩|⟨_,a,_⟩
 .rw[a];exact⟨by omega,f⟩
 .exact yb a h
theorem SI.fin (b:SI s c A) (g:GI A fun _=>0) (d:c<2000) {x:Tx} {T:List Nat} {A':Nat->AN} (t:TV x s n T A') (e:GI A' fun _=>0) (f:sf x.rows=0) (h:64*T.length+n<=208):
 SI (endS s x) (c+1) (if endE s x=0 then A' else A)/\GI (if endE s x=0 then A' else A) fun _=>0:=by
 by_cases a:endE s x=0
 .rw[ze a];exact⟨(t.done b d f h a).1,e⟩
 .rw[zb a];have:endS s x=s:=zb a;rw[this];exact⟨b.mono (by omega) d,g⟩
theorem SI.stay (a:SI s c A) (g:GI A fun _=>0) (b:c<=1000):∃A',SI s (c+1) A'/\GI A' fun _=>0:=⟨A,a.mono (by omega) (by omega),g⟩
theorem SI.addM (h:SI s c A) (g:GI A fun _=>0) (j:c<=1000) (p:i<32) (l:(A i).k=2) {k:Int} (q:1<=k/\k<=3/\0<=m/\m<=511/\0<=u/\u<=255/\0<=gg/\gg<=255) {b:List Int} (r:b.length<=512/\ue b) (o:k=2->b=[]) (D:List Int) (name:ByteArray):
 ∃A',SI (addM s i D name k m u gg b).2 (c+1) A'/\GI A' fun _=>0:=by
 unfold Go.Proofs.YtakfhadmokoikaaGreatDoor.addM;split
 .cases a:qt s with
  | none=>exact h.stay g j
  | some n=>
   obtain⟨_,f,e⟩:=h.add g j p l a q r o name;simp only;rw[f];split
   .rename_i d;exact⟨_,h.fin g (by omega) (e d).1 (e d).2 h.rows (by simp)⟩
   .exact h.stay g j
 .exact h.stay g j
theorem Vq (x:Tx) (s:Fs) (i:Nat) (a:ByteArray):(x.leaX s i a).rows=x.rows:=by unfold Tx.leaX Tx.fillX Tx.wow;split<;>rfl
theorem Wg (x:Tx) (s:Fs) (i:Nat):(x.dropX s i).rows=x.rows:=by unfold Tx.dropX Tx.freeX Tx.setX;split<;>rfl
theorem SI.unlM (q:SI s c A) (g:GI A fun _=>0) (u:c<=1000) (v:i<32) (r:(A i).k=2) (name:ByteArray):
 ((
  vz (dirB s i) name).2.2=0->¬((s.nodes.getD ((vz (dirB s i) name).1-1).toNat zN).k=2/\0<(s.nodes.getD ((vz (dirB s i) name).1-1).toNat zN).s)->mW s i ((vz (dirB s i) name).1-1).toNat name) /\
  ∃A',SI (unlM s i (dirB s i) name).2 (c+1) A'/\GI A' fun _=>0:=by
 rcases q.found g v r name with⟨e,d,rfl,j,f,p,n,o⟩|⟨_,j,f⟩
 .have l:(((e.2-1).toNat:Nat):Int)+1=e.2:=by omega
  have b:=q.A_at (i:=(e.2-1).toNat) (by omega);unfold Go.Proofs.YtakfhadmokoikaaGreatDoor.unlM;simp only[j,f,vl,b.1,b.2.2.2.2.1];refine⟨fun _ a=>(q.unlink g u v r d l a).1,?_⟩;split
  .exact q.stay g u
  .rename_i a;obtain⟨_,t,m⟩:=q.unlink g u v r d l a;exact⟨_,q.fin g (by omega) t m (by rw[Wg,Vq];exact q.rows) (by simp)⟩
 .refine⟨fun h=>by omega,?_⟩;unfold Go.Proofs.YtakfhadmokoikaaGreatDoor.unlM;simp only;rw[zb (by omega)];exact q.stay g u
theorem SI.lnkM (m:SI s c A) (g:GI A fun _=>0) (o:c<=1000) (r:i<32) (p:(A i).k=2) (q:n<32) (name:ByteArray):∃A',SI (lnkM s i n (dirB s i) name).2 (c+1) A'/\GI A' fun _=>0:=by
 have a:=m.A_at q;unfold Go.Proofs.YtakfhadmokoikaaGreatDoor.lnkM;simp only;rw[a.1,a.2.2.2.2.2.1];split
 .exact m.stay g o
 split
 .exact m.stay g o
 split
 .exact m.stay g o
 split
 .exact m.stay g o
 rename_i j e _ f;obtain⟨_,l,d⟩:=m.link g o r p q (fun h=>j (zt h)) e f name;rw[l];split
 .rename_i b;exact⟨_,m.fin g (by omega) (d b).1 (d b).2 m.rows (by simp)⟩
 .exact m.stay g o
theorem SI.movM (R:SI s c A) (g:GI A fun _=>0) (U:c<=1000) (V:i<32) (S:(A i).k=2) {j:Nat} (W:j<32) (T:(A j).k=2) (a b:ByteArray) (X:ru b=true):
 ((
  vz (dirB s i) a).2.2=0->movO (dirB s j) b≠some ((vz (dirB s i) a).1-1).toNat->movE s j ((vz (dirB s i) a).1-1).toNat (movO (dirB s j) b)=0->kr s i j ((vz (dirB s i) a).1-1).toNat a b (movO (dirB s j) b)) /\
  ∃A',SI (movM s i j (dirB s i) (dirB s j) a b).2 (c+1) A'/\GI A' fun _=>0:=by
 rcases R.found g V S a with⟨e,F,rfl,B,x,O,K,L⟩|⟨_,B,x⟩
 .have C:(((e.2-1).toNat:Nat):Int)+1=e.2:=by omega
  have u:=R.A_at (i:=(e.2-1).toNat) (by omega);have w:∀m,movO (dirB s j) b=some m->m<32/\∃f∈outD (A j).D,f.1=b/\(m:Int)+1=f.2:=fun m d=>by
   unfold movO at d;rcases R.found g W T b with⟨f,G,rfl,y,E,Q,P,N⟩|⟨_,y,E⟩
   .rw[y,E,ze rfl]at d;injection d with d;exact⟨by omega,f,G,rfl,by omega⟩
   .rw[zb (by omega)]at d;cases d
  have n:movE s j (e.2-1).toNat (movO (dirB s j) b)=0->∀m,movO (dirB s j) b=some m->((A m).k=2↔(A (e.2-1).toNat).k=2)/\¬((A (e.2-1).toNat).k=2/\0<(A m).s):=fun l m d=>by
   have o:=R.A_at (w m d).1;rw[d]at l;unfold movE at l;simp only[o.1,o.2.2.2.2.1,u.1]at l;split at l
   .rename_i p;split at l
    .omega
    .rename_i r;exact⟨p,r⟩
   .omega
  unfold Go.Proofs.YtakfhadmokoikaaGreatDoor.movM movR;rw[B,x,ze rfl];refine⟨fun _ p r=>(R.move g U V S W T F C p (fun m d=>(w m d).2) X (n r)).1,?_⟩;split
  .exact R.stay g U
  split
  .exact R.stay g U
  rename_i p r;have v:movE s j (e.2-1).toNat (movO (dirB s j) b)=0:=by omega
  obtain⟨J,I,z⟩:=R.move g U V S W T F C p (fun m d=>(w m d).2) X (n v);rw[I];split
  .exact R.stay g U
  rename_i M;have q:tC (movB A i j e.1 b (movO (dirB s j) b) j).D (b,(((e.2-1).toNat:Nat):Int)+1)=0:=by omega
  refine⟨_,R.fin g (by omega) (z q).1 (z q).2 ?_ (by simp)⟩;have H:(movX s i j (e.2-1).toNat e.1 b (movO (dirB s j) b)).rows=(movT s i j e.1 b (movO (dirB s j) b)).rows:=by unfold movX movY;split<;>rfl
  rw[H];have t:(movT s i j e.1 b (movO (dirB s j) b)).rows=s.rows:=by
   cases movO (dirB s j) b with
   | none=>exact Vq _ _ _ _
   | some m=>exact (Wg _ _ _).trans ((Vq _ _ _ _).trans (Vq _ _ _ _))
  rw[t];exact R.rows
 .refine⟨fun h=>by omega,?_⟩;unfold Go.Proofs.YtakfhadmokoikaaGreatDoor.movM;rw[zb (by omega)];exact R.stay g U
theorem SI.wrtM (h:SI s c A) (g:GI A fun _=>0) (j:c<=1000) (l:i<32) (p:Nat) (m:ue Dt):∃A',SI (wrtM s i p Dt).2 (c+1) A'/\GI A' fun _=>0:=by
 unfold Go.Proofs.YtakfhadmokoikaaGreatDoor.wrtM;simp only;split
 .exact h.stay g j
 split
 .exact h.stay g j
 split
 .exact h.stay g j
 split
 .exact h.stay g j
 rename_i _ b e f;have a:(A i).k=1:=by rw[<-(h.A_at l).1];exact Classical.not_not.1 b
 obtain⟨_,t,d⟩:=h.write g j l a (p:=p) (by omega) (by omega) m;exact⟨_,h.fin g (by omega) t d h.rows (by simp)⟩
theorem SI.byteE (e:SI s c A):mf s:=fun n d x a=>by
 unfold secE at a;cases b:getZ s.todo (n:Int) with
 | some D=>rw[b]at a;exact (e.tk _ (nt b)).2.2.2 x a
 | none=>rw[b]at a;exact gm e.bn n x a
theorem SI.doOk (O:SI s c A) (g:GI A fun _=>0) (P:c<=1000) (x:DoI) (Q:x.S.size<=300):DoOk s x:=by
 have D:=O.dirsOk g;have i:=lc D x.A;have v:=lc D x.B;have d:(A (atN s x.A)).k=2:=(O.A_at i.1).1.symm.trans i.2;have q:(A (atN s x.B)).k=2:=(O.A_at v.1).1.symm.trans v.2;have I:=ro x.C 3 (by omega) (by omega);have w:=ro x.C 512 (by omega) (by omega);have F:=ro x.C 20 (by omega) (by omega);have N:=ro x.B 3 (by omega) (by omega);have H:=Zj O.rows;have p:∀n,n<32->(s.nodes.getD n zN).k=(A n).k:=fun n l=>(O.A_at l).1;have f:([]:List Int).length<=512/\ue []:=⟨ye _,fun y K=>yb K yE⟩;refine⟨Q,fun _ _ n l=>(O.add g P i.1 d l (by omega) f (fun _=>rfl) _).1,fun _ _ n l=>(O.add g P i.1 d l (by omega) f (fun _=>rfl) _).1,fun _ b o E e=>?_,fun _ e z=>(O.unlM g P i.1 d _).1 e z,fun X G=>?_,fun _ e a m=>(O.movM g P i.1 d v.1 q _ _ (lM _)).1 e a m,fun _ b o=>?_,fun _ b=>⟨?_,fun e m _ r E=>?_⟩,fun _ M _ n l=>?_,fun _ b e=>?_,H.2,fun _ J=>?_,fun _=>O.syncOk P,fun _ e=>(O.snap P e).1,fun _ e=>(O.forget P (by omega)).1⟩
 .have a:=O.ino g x b;exact (O.write g P a.1 ((p _ a.1).symm.trans o) E e (kT _).2).1
 .obtain⟨j,L,rfl⟩:=(O.tv []).ti.mem (x:=tx0 s) G;rcases (O.tv []).ti.nd j L with h|h
  .rw[h];exact⟨wO 0,by show (0:Int)<=32;omega⟩
  .by_cases o:((tx0 s).nodes.getD j zN).k=2
   .have:=h.2.2.2.1 o;omega
   .have:=h.2.2.2.2.1 o;omega
 .have a:=O.ino g x b;exact (O.cut g P a.1 ((p _ a.1).symm.trans o) (by omega)).1
 .have a:=O.ino g x b;have m:=(O.tv []).fld a.1 a.2;exact⟨m.1.2.2.2.2.2.2.2.2.1,m.1.2.2.2.2.2.2.2.2.2⟩
 .have a:=O.ino g x b;have t:=O.A_at a.1;exact (O.link g P v.1 q a.1 a.2 (by rw[<-t.1];exact m) (by rw[<-t.2.2.2.2.2.1];exact r) _).1
 .have a:=kT (tS x.S);exact (O.add g P i.1 d l (by omega) ⟨by omega,a.2⟩ (fun h=>by omega) _).1
 .have a:=O.ino g x b;exact (O.own g P a.1 a.2 (by omega) (by omega)).1
 .obtain⟨a,_,t,_⟩:=O.quota P (u:=pk x.B 3) (lim:=pk x.C 20-1) (by omega) (by omega) J;exact⟨a,t⟩
theorem SI.doM (F:SI s c A) (g:GI A fun _=>0) (G:c<=1000) (x:DoI) (H:x.S.size<=300):∃A',SI (doM s x).2 (c+1) A'/\GI A' fun _=>0:=by
 have n:=F.dirsOk g;have f:=lc n x.A;have j:=lc n x.B;have b:(A (atN s x.A)).k=2:=(F.A_at f.1).1.symm.trans f.2;have i:(A (atN s x.B)).k=2:=(F.A_at j.1).1.symm.trans j.2;have v:=ro x.C 3 (by omega) (by omega);have l:=ro x.C 512 (by omega) (by omega);have o:=ro x.C 20 (by omega) (by omega);have E:=ro x.B 3 (by omega) (by omega);have e:([]:List Int).length<=512/\ue []:=⟨ye _,fun y z=>yb z yE⟩;unfold Go.Proofs.YtakfhadmokoikaaGreatDoor.doM;simp only;split
 .exact F.addM g G f.1 b (by omega) e (fun _=>rfl) _ _
 .exact F.addM g G f.1 b (by omega) e (fun _=>rfl) _ _
 .split
  .exact F.stay g G
  rename_i a;have d:=F.ino g x a;exact F.wrtM g G d.1 _ (kT x.S).2
 .exact (F.unlM g G f.1 b _).2
 .exact (F.movM g G f.1 b j.1 i _ _ (lM _)).2
 .split
  .exact F.stay g G
  rename_i a;have d:=F.ino g x a;unfold cutM;simp only;split
  .exact F.stay g G
  split
  .exact F.stay g G
  split
  .exact F.stay g G
  rename_i _ D _;have r:(A (inoN s x-1).toNat).k=1:=by rw[<-(F.A_at d.1).1];exact Classical.not_not.1 D
  obtain⟨_,t,m⟩:=F.cut g G d.1 r (sz:=(pk x.C 512).toNat) (by omega);exact⟨_,F.fin g (by omega) t m F.rows (by simp)⟩
 .split
  .exact F.stay g G
  rename_i a;have d:=F.ino g x a;exact F.lnkM g G j.1 i d.1 _
 .unfold symM;split
  .exact F.stay g G
  .have d:=kT (tS x.S);exact F.addM g G f.1 b (by omega) ⟨by omega,d.2⟩ (fun h=>by omega) _ _
 .split
  .exact F.stay g G
  rename_i a;have d:=F.ino g x a;unfold ownM;simp only;split
  .exact F.stay g G
  obtain⟨_,t,m⟩:=F.own g G d.1 d.2 (u:=pk x.C 3) (gg:=0) (by omega) (by omega);exact⟨_,F.fin g (by omega) t m F.rows (by simp)⟩
 .unfold pF;split
  .exact F.stay g G
  rename_i w;obtain⟨_,p,_,t⟩:=F.quota G (u:=pk x.B 3) (lim:=pk x.C 20-1) (by omega) (by omega) (by simpa using w);exact⟨_,F.fin g (by omega) t g p (by simp)⟩
 .exact⟨A,F.sync (by omega),g⟩
 .split
  .unfold lG;split
   .rename_i q;exact⟨_,F.fin g (by omega) (F.snap G q).2 g F.rows (by simp)⟩
   .exact F.stay g G
  .unfold js;split
   .exact⟨_,F.fin g (by omega) (F.forget G (k:=(1+pk x.C 3).toNat) (by omega)).2 g F.rows (by simp)⟩
   .exact F.stay g G
end
def rootA : AN:=⟨2,493,0,0,0,1,1,[]⟩
def jf : Nat->AN:=fun i=>if i=0 then rootA else zAN
theorem VF (k i:Nat) (a:i<32):((tx0 (fs0 k)).nodes.getD i zN)=if i=0 then mS else zN:=Nm i a
theorem il (k i b:Nat) (a:i<32):(tx0 (fs0 k)).pf i b=0:=by unfold Tx.pf;rw[ze a,VF k i a];split<;>rfl
theorem SX: ((List.range 4).all fun a=> !badN (uf 16) a&&!badT (uf 16) a)=true:=by kernel_rfl
theorem Yj (k i:Nat) (a:i<32):(tx0 (fs0 k)).dirD (fs0 k) i=[]:=by rw[lP _ _ a,VF k i a];split<;>rfl
theorem kD (F:64<=k) (E:k<=256):SI (fs0 k) 0 jf:=by
 obtain⟨A,v,t,C⟩:=ZM k F;have f:∀j,j<16->(uf 16).nd 0 j=((37+j:Nat):Int):=WR;have d:∀b,(tx0 (fs0 k)).pf 32 b=(uf 16).nd 0 b:=fun b=>rfl;have s:∀i b,32<i->(tx0 (fs0 k)).pf i b=0:=fun i b h=>by unfold Tx.pf;rw[zb (by omega),zb (by omega)]
 refine⟨fun T=>⟨⟨⟨fun z=>if 37<=z/\z<53 then some (32,(z-37).toNat) else none,E,⟨wO _,fun _=>rfl⟩,by kernel_rfl,fun i b m g=>?_,fun j o=>?_,fun p c=>yb c yE,fun p a c=>?_,fun p i b c=>?_,fun n D=>?_,List.Pairwise.nil,fun y e=>yb e yE,fun y e=>yb e yE⟩,fun i b l q=>?_,by kernel_rfl,fun a _ w=>?_,fun i l=>?_,fun y e=>yb e yE,fun _ _=>rfl⟩,⟨⟨wO _,wO _⟩,zL,zL,zL⟩,fun j o=>?_,fun i l b r B _=>?_⟩,by kernel_rfl,List.Pairwise.nil,ye _,fun y e=>yb e yE,F,⟨A,t⟩,?_,rfl,⟨wO _,wO _⟩,by show (fmtE (tJ k) k).W.length<=_;rw[v];exact zL,ye _⟩
 .rcases m with m|⟨rfl,m⟩
  .rw[il k i b m]at g;exact yb rfl g
  .rw[d,f b m,ze (by omega)]
   congr 2
   omega
 .rw[d,f j o];omega
 .split at c
  .left;show 37<=p/\p<(k:Int);omega
  .cases c
 .split at c
  .rename_i h;injection c with c;injection c with x u;subst x u;refine zt ⟨zu ⟨rfl,by omega⟩,?_⟩;rw[d,f _ (by omega)];omega
  .cases c
 .show (uf 16).hs 0 n=true↔_;unfold uf;simp only[decide_true,uq,yM,xo];by_cases h:37<=(n:Int)/\(n:Int)<53
  .rw[ze h];simp;omega
  .rw[zb h];simp;omega
 .rw[il k i b l]at q;omega
 .have h:=yU.1 SX a (yT.2 w);simp only[yM,ub]at h;exact h
 .rw[VF k i l];split
  .exact zu ⟨⟨by decide,by decide,by decide,by decide,by decide,by decide,by decide,by decide,by decide,by decide⟩,by decide,by decide,fun _=>⟨by decide,by decide⟩,fun h=>yb rfl h,by decide⟩
  .exact zt rfl
 .unfold vw jf;rw[Yj k j o,VF k j o];split<;>rfl
 .unfold blk tE;rw[il k i b l,ze rfl,yY,ze B]
 .refine JK t fun p c=>?_;show ue (sec (fmtE (tJ k) k).N p);rw[Yp k F p c];exact LU k p E
theorem kE: GI jf fun _=>0:=by
 have d:∀i,uK (jf i)=[]:=fun i=>by
  unfold jf;split
  .unfold uK rootA;rw[ze rfl];exact gG
  .rfl
 have f:∀z,cntA jf z=0:=fun z=>by unfold cntA;simp only[d,List.countP_nil];rfl
 have b:∀i,i≠0->jf i=zAN:=fun i h=>zb h;refine⟨fun i g a=>?_,fun i g e h=>(by rw[d]at h;cases h),fun n c=>?_,fun n c a=>?_,fun n c a=>?_,rfl,fun n c a=>?_⟩
 .unfold jf at a ⊢;split
  .exact Jr
  .rename_i h;rw[zb h]at a;cases a
 .rw[f];by_cases h:n=0
  .subst h;rfl
  .rw[b n h,zb h];rfl
 .by_cases h:n=0
  .subst h;exact wO 1
  .rw[b n h]at a;exact yb rfl a
 .by_cases h:n=0
  .subst h;cases a
  .exact b n h
 .by_cases h:n=0
  .subst h;rfl
  .rw[b n h]at a;cases a
section
variable {s : Fs} {n c i : Nat} {A : Nat->AN}
theorem SI.make3 (r:SI s c A) (g:GI A fun _=>0) (v:c<=1000) {k:Int} (w:1<=k/\k<=3/\0<=m/\m<=511/\0<=u/\u<=255/\0<=gg/\gg<=255) (D:List Int) (name:ByteArray):
 ((
  Go.Proofs.YtakfhadmokoikaaGreatDoor.addM s 0 D name k m u gg []).1.1=0/\(Go.Proofs.YtakfhadmokoikaaGreatDoor.addM s 0 D name k m u gg []).1.2≠0/\(Go.Proofs.YtakfhadmokoikaaGreatDoor.addM s 0 D name k m u gg []).2=s) \/
  ∃(n:Nat) (A':Nat->AN),n<32/\n≠0/\(Go.Proofs.YtakfhadmokoikaaGreatDoor.addM s 0 D name k m u gg []).1=((n:Int)+1,0)/\SI (Go.Proofs.YtakfhadmokoikaaGreatDoor.addM s 0 D name k m u gg []).2 (c+1) A'/\(GI A' fun _=>0)/\(A n).k=0/\A'=entA (upA A n (newA k m u gg 0 [])) 0 (name,(n:Int)+1):=by
 have a:([]:List Int).length<=512/\ue []:=⟨ye _,fun y j=>yb j yE⟩;unfold Go.Proofs.YtakfhadmokoikaaGreatDoor.addM;split
 .cases d:qt s with
  | none=>exact zt ⟨rfl,by show (6:Int)≠0;decide,rfl⟩
  | some n=>
   obtain⟨_,l,o⟩:=r.add g v (i:=0) (by omega) g.root d w a (fun _=>rfl) name;simp only;rw[l];split
   .rename_i b;obtain⟨t,q⟩:=o b;obtain⟨p,h⟩:=r.free d;split
    .rename_i e;have f:=g.ne g.root h;exact zu ⟨n,_,p,yF f,rfl,(t.done r (by omega) r.rows (by simp) e).1,q,h,rfl⟩
    .rename_i e;exact zt ⟨rfl,e,zb e⟩
   .rename_i b;exact zt ⟨rfl,b,rfl⟩
 .rename_i b;exact zt ⟨rfl,b,rfl⟩
theorem SI.wrt3 (j:SI s c A) (g:GI A fun _=>0) (n:c<=1000) (l:i<32) (m:(A i).k=1) (p:Nat) (o:ue Dt):
 ((
  Go.Proofs.YtakfhadmokoikaaGreatDoor.wrtM s i p Dt).1.1=0/\(Go.Proofs.YtakfhadmokoikaaGreatDoor.wrtM s i p Dt).1.2≠0/\(Go.Proofs.YtakfhadmokoikaaGreatDoor.wrtM s i p Dt).2=s) \/
  ((Go.Proofs.YtakfhadmokoikaaGreatDoor.wrtM s i p Dt).1=((Dt.length:Int),0)/\Dt.length=0/\(Go.Proofs.YtakfhadmokoikaaGreatDoor.wrtM s i p Dt).2=s) \/
  ((Go.Proofs.YtakfhadmokoikaaGreatDoor.wrtM s i p Dt).1=((Dt.length:Int),0)/\0<Dt.length/\p+Dt.length<=512/\SI (Go.Proofs.YtakfhadmokoikaaGreatDoor.wrtM s i p Dt).2 (c+1) (upA A i {A i with s:=((wrtB (A i).D Dt p).length:Int),D:=wrtB (A i).D Dt p})/\GI (upA A i {A i with s:=((wrtB (A i).D Dt p).length:Int),D:=wrtB (A i).D Dt p}) fun _=>0):=by
 have h:(s.nodes.getD i zN).k=1:=by rw[(j.A_at l).1];exact m
 unfold Go.Proofs.YtakfhadmokoikaaGreatDoor.wrtM;simp only;rw[zb (by omega),zb (by omega)];split
 .exact zt ⟨rfl,by show (2:Int)≠0;decide,rfl⟩
 split
 .rename_i b;exact zu (zt ⟨by rw[b];rfl,b,rfl⟩)
 rename_i f e;obtain⟨_,t,d⟩:=j.write g n l m (p:=p) (by omega) (by omega) o;split
 .rename_i a;exact zu (zu ⟨rfl,by omega,by omega,(t.done j (by omega) j.rows (by simp) a).1,d⟩)
 .rename_i a;exact zt ⟨rfl,a,zb a⟩
theorem SI.bytes (a:SI s c A) (b:i<32):tc (secE s) (s.nodes.getD i zN).P (s.nodes.getD i zN).s=(A i).D:=(a.A_at b).2.2.2.2.2.2.2
theorem SI.size (a:SI s c A) (b:i<32):(s.nodes.getD i zN).s=((A i).D.length:Int):=by rw[(a.A_at b).2.2.2.2.1];exact ((a.tv []).len a.sec b).symm
theorem SI.node (b:SI s c A) (d:i<32):s.nodes[i]?=some (s.nodes.getD i zN):=by have a:s.nodes.length=32:=(b.tv []).ti.len;rw[zh,zf (by omega)];rfl
end
theorem TK (Dt:List Int):wrtB [] Dt 0=Dt:=by
 unfold wrtB;apply xS;intro q;rw[xy];by_cases a:q<Dt.length
 .rw[vo (by simp;omega)];simp[a,zh]
 .rw[yd (l:=Dt) (by omega),yd (by simp;omega)];rfl
theorem Qx (D Dt:List Int) (p:Nat) (h:0<Dt.length):over (D++List.replicate (p+Dt.length-D.length) 0) p Dt=wrtB D Dt p:=by
 apply xS;intro q;unfold over wrtB;rw[xy];by_cases b:q<max D.length (p+Dt.length)
 .rw[vo b];simp only[rT];by_cases d:q<p
  .rw[zO (by simp;omega),wM d,zb (by omega)];by_cases a:q<D.length
   .rw[zO a,zh,zf a];rfl
   .rw[zx (by omega),yY,ze (by omega),zh,yd (l:=D) (by omega)];rfl
  .have c:(List.take p (D++List.replicate (p+Dt.length-D.length) (0:Int))).length=p:=(by simp;omega);rw[zx (by omega),c];by_cases a:q<p+Dt.length
   .rw[zO (by omega),ze (by omega),zh,zf (by omega)];rfl
   .rw[zx (by omega),yo,zb (by omega),zO (by omega),show p+Dt.length+(q-p-Dt.length)=q by omega,zh,zf (by omega)];rfl
 .rw[yd (by simp;omega),yd (by simp;omega)];rfl
def nmA : ByteArray:=⟨#[97]⟩
def fD1 : List Int:=layD (outD []++[(nmA,2)])
def fX0 : Pn:={mS with P:=[53],s:=16}
def fX1 : Pn:=⟨1,420,0,0,6,1,0,[54]⟩
def fDt : List Int:=[120,121,122]
def fs1 : Fs:=(addM (fs0 80) 0 [] nmA 1 420 0 0 []).2
def fs2 : Fs:=(wrtM fs1 1 3 fDt).2
def fs3 : Fs:=mB fs2
def fdk : Dk:=kI fs3.dk []
def fdk' : Dk:=li fdk
def fs4 : Fs:=⟨fdk',80,seqO fdk.N,fs2.fo,[],fs2.nodes,[],[]⟩
theorem Ii: (addM (fs0 80) 0 [] nmA 1 420 0 0 []).1=(2,0)/\(wrtM fs1 1 3 fDt).1=(3,0):=⟨by kernel_rfl,by kernel_rfl⟩
def padS (l:List Int):List Int:=l++List.replicate (64-l.length) 0
def gS : Nat->List Int
 | 0=>padS [114,105,110,103,1,80]
 | 1=>padS [37,38,39,40,41,42,43,44,45,46,47,48,49,50,51,52]
 | 2=>padS [0,0,0,0,224,255,127]
 | 5=>padS [74,1,0,0,0,4,2,37,53,54]
 | 6=>padS [0,0,0,0,224,255,127]
 | 7=>padS [2,237,1,0,0,16,0,1,1,53,1,0,0,0,0,0,0,0,0,0,0,0,0,0,0,0,0,0,0,0,0,0,1,164,1,0,0,6,0,1,0,54,1]
 | 8=>padS [97,0,0,0,0,0,0,0,0,0,0,0,0,0,2]
 | 9=>padS [0,0,0,120,121,122]
 | 10=>padS [67,1,0,0,0,197,28,60,81]
 | 37=>padS [2,237,1,0,0,16,0,1,1,53,1,0,0,0,0,0,0,0,0,0,0,0,0,0,0,0,0,0,0,0,0,0,1,164,1,0,0,6,0,1,0,54,1]
 | 53=>padS [97,0,0,0,0,0,0,0,0,0,0,0,0,0,2]
 | 54=>padS [0,0,0,120,121,122]
 | _=>rm
def j2 (l:List Int):Bool:=l.all fun x=>decide (0<=x)&&decide (x<=255)
theorem VB {l:List Int} (h:j2 l=true):∀x∈l,0<=x/\x<=255:=fun x a=>by have:=yU.1 h x a;simpa using this
def freeQ (l:List Wr):Bool:=l.all fun x=>decide (x.1<80)&&(decide (x.1<5)||decide (37<=x.1))
theorem RF {l:List Wr} (h:freeQ l=true):∀x∈l,mY 80 x:=fun x a=>by have:=yU.1 h x a;simpa[mY]using this
def secsQ (N:List Int) (g:Nat->List Int) (k:Nat):Bool:=(List.range k).all fun n=>decide (sec N n=g n)
theorem Wy {N:List Int} {g:Nat->List Int} (h:secsQ N g k=true):∀n,n<k->sec N n=g n:=fun n a=>by have:=yU.1 h n (yT.2 a);simpa using this
theorem WW: secsQ fdk'.N gS 80=true:=by kernel_rfl
theorem NX: (decide (sec fdk.N 0=sV 80)&&j2 fdk.N&&freeQ (qU fdk.N)&&decide (seqO fdk.N=1)&&decide (fdk.W.length=0))=true:=by kernel_rfl
theorem Ym (n:Nat) (a:n<80):∀x∈gS n,0<=x/\x<=255:=by
 have h:((List.range 80).all fun n=>j2 (gS n))=true:=by kernel_rfl
 exact VB (yU.1 h n (yT.2 a))
section
variable {N N' : Nat->List Int} {k : Nat} {f : Fo}
theorem ji.congr (h:ji N f k) (b:4<=k) (a:∀n,n<k->N' n=N n):ji N' f k:=by
 have e:sH N'=sH N:=by unfold sH;rw[a 1 (by omega),a 2 (by omega),a 3 (by omega)]
 exact⟨by rw[e];exact h.eq,by rw[e];exact h.right,h.root,h.nds⟩
theorem Il (h:∀j,j<16->0<=nd j/\nd j<(k:Int)) (a:∀n,n<k->N' n=N n) (j:Nat) (b:j<32):nl N' nd j=nl N nd j:=by unfold nl;have:=h (j / 2) (by omega);rw[a _ (by omega)]
theorem jh.congr (h:jh N nd k) (b:∀n,n<k->N' n=N n):jh N' nd k:=
 ⟨h.1,fun j a=>by rw[Il h.1 b j a];exact h.2 j a⟩
theorem JT (h:∀j,j<16->0<=nd j/\nd j<(k:Int)) (b:∀n,n<k->N' n=N n):sQ N' nd 32=sQ N nd 32:=by unfold sQ;refine wW fun j a=>?_;rw[Il h b j (by simpa using a)]
theorem KV {P:List Int} (h:∀p∈P,p=0\/(37<=p/\p<(k:Int))) (d:∀n,n<k->N' n=N n) (s:Int):tc N' P s=tc N P s:=by
 unfold tc;have e:P.flatMap (tE N')=P.flatMap (tE N):=by
  rw[rj,rj]
  congr 1
  refine wW fun p a=>?_;unfold tE;rcases h p a with rfl|⟨c,b⟩
  .simp
  .rw[d _ (by omega)]
 rw[e]
theorem Za.congr {t:Nat} (h:Za N f t k L) (c:∀n,n<k->N' n=N n):Za N' f t k L:=by
 have e:pV N' L=pV N L:=by
  unfold pV;refine KV (fun p a=>?_) c _;by_cases b:0<L.length
  .rw[zh,zf b,tt]at a;exact h.own.pts _ (zz _) p a
  .rw[zh,yd (by omega)]at a;cases a
 exact⟨h.tree.congr c,(JT h.tree.1 c).trans h.eq,h.own,h.size,by rw[e];exact h.list,by rw[e];exact h.root,h.up,by rw[e];exact h.names⟩
theorem jk.congr (h:jk N f k) (d:5<=k) (c:∀n,n<k->N' n=N n):jk N' f k:=
 ⟨by rw[c 0 (by omega)];exact h.mark,h.load.congr (by omega) c,by rw[c 4 (by omega)];exact h.quota,fun t b a=>(h.tree t b a).imp fun _ h=>h.congr c⟩
end
def jY (bs:List Int):Bool:=
 decide (bs.length=32)&&(decide ((midB bs).length=16)&&decide ((sY (midB bs)).2=0)&&decide (sk (ofE (sY (midB bs)).1)=midB bs))&&decide (vL (bs.getD 0 0) (bs.getD 1 0+bs.getD 2 0*256) (bs.getD 3 0) (bs.getD 4 0) (bs.getD 5 0+bs.getD 6 0*256) (bs.getD 7 0) (bs.getD 8 0) (ptsN bs)=0) &&
 decide (rM (bs.getD 0 0) (bs.getD 1 0+bs.getD 2 0*256) (bs.getD 3 0) (bs.getD 4 0) (bs.getD 5 0+bs.getD 6 0*256) (bs.getD 7 0) (bs.getD 8 0) (ptsN bs)=bs)
theorem Ro {bs:List Int} (h:jY bs=true):o9 bs:=by unfold jY at h;simp only[yM,xo]at h;exact⟨h.1.1.1,⟨h.1.1.2.1.1,h.1.1.2.1.2,h.1.1.2.2⟩,h.1.2,h.2⟩
def jZ (N:Nat->List Int) (f:Fo) (k:Nat) (L:List Pn):Bool:=
 decide (N 0=sV k)&&decide (rV (foB (sH N))=0)&&(vN f 0&&!vN f 1&&!vN f 2&&!vN f 3) &&
 ((List.range 16).all fun i=>decide (37<=f.nd 0 i)&&decide (f.nd 0 i<(k:Int)))&&decide (N 4=rm) &&
 ((List.range 32).all fun j=>jY (nl N (f.nd 0) j)) &&
 decide ((pH (f.nd 0) 16++sR L).Nodup)&&(L.all fun x=>decide (x.P.length<=8)&&x.P.all fun p=>decide (p=0)||(decide (37<=p)&&decide (p<(k:Int)))) &&
 ((List.range 256).all fun m=>decide (rP (pH (f.nd 0) 16++sR L) m=f.hs 0 m)) &&
 (decide (0<=(L.getD 0 zN).s)&&decide ((L.getD 0 zN).s<=512))&&sI (pV N L) &&
 (decide (L.length=32)&&((List.range 32).all fun i=>decide ((L.getD i zN).k=2)==decide (i=0))&&((outD (pV N L)).all fun x=>decide (1<x.2)&&decide (x.2<=32))&&decide ((outD (pV N L)).length<=32)) &&
 decide ((L.getD 0 zN).up=1)&&((List.range 32).all fun i=>decide ((L.getD i zN).l=oK (outD (pV N L)) i)&&(!decide ((L.getD i zN).k=0)||decide (oK (outD (pV N L)) i<=0)))
theorem RM {N:Nat->List Int} {f:Fo} (h:jZ N f k L=true) (K:encF (foB (sH N))=encF f) (M:sQ N (f.nd 0) 32=L):jk N f k:=by
 unfold jZ at h;simp only[yM,xo,yU,yT,ub,rU,vv,zJ]at h;obtain⟨⟨⟨⟨⟨⟨⟨⟨⟨⟨⟨⟨⟨E,B⟩,⟨⟨H,y⟩,z⟩,A⟩,r⟩,G⟩,I⟩,n⟩,c⟩,o⟩,e⟩,l⟩,⟨⟨q,s⟩,m⟩,w⟩,g⟩,d⟩:=h;refine⟨E,⟨K,B,H,fun t i C b a=>?_⟩,by rw[G];exact K6,fun t C a=>?_⟩
 .have:t=0\/t=1\/t=2\/t=3:=by omega
  rcases this with rfl|rfl|rfl|rfl
  .exact r i b
  .rw[y]at a;cases a
  .rw[z]at a;cases a
  .rw[A]at a;cases a
 .have:t=0\/t=1\/t=2\/t=3:=by omega
  rcases this with rfl|rfl|rfl|rfl
  .refine⟨L,⟨fun j v=>?_,fun j v=>Ro (I j v)⟩,M,⟨n,r,fun x u p F=>(c x u).2 p F,o,fun x u=>(c x u).1⟩,e,l,⟨q,fun i b=>?_,m,w⟩,g,fun i b=>⟨(d i b).1,fun D=>(d i b).2.resolve_left (fun J=>J D)⟩⟩
   .have:=r j v;omega
   .have:=s i (by omega);rw[zh,zf b,tt]at this;simpa using this
  .rw[y]at a;cases a
  .rw[z]at a;cases a
  .rw[A]at a;cases a
theorem MI: jZ gS fs2.fo 80 fs2.nodes=true:=by kernel_rfl
theorem Oe: encF (foB (sH gS))=encF fs2.fo:=by kernel_rfl
theorem JD: sQ gS (fs2.fo.nd 0) 32=fs2.nodes:=by kernel_rfl
theorem WX: jk gS fs2.fo 80:=RM MI Oe JD
theorem SY (k:Nat):dirB (fs0 k) 0=[]:=Yj k 0 (by omega)
theorem We: ∃A,SI fs1 1 A/\GI A fun _=>0:=(kD (k:=80) (by omega) (by omega)).addM kE (by omega) (i:=0) (by omega) rfl (by omega) ⟨ye _,fun y a=>yb a yE⟩ (fun h=>by omega) [] nmA
theorem Xj: ue fDt:=VB (by kernel_rfl)
theorem Oh: ∃A,SI fs2 2 A/\GI A fun _=>0:=by obtain⟨A,h,g⟩:=We;exact h.wrtM g (by omega) (i:=1) (by omega) 3 Xj
theorem Og (n:Nat) (b:qt (fs0 80)=some n):pD (fs0 80) 0 n (newP 1 420 0 0 0) [] nmA:=((kD (k:=80) (by omega) (by omega)).add kE (by omega) (i:=0) (by omega) rfl b (by omega) ⟨ye _,fun y a=>yb a yE⟩ (fun _=>rfl) nmA).1
theorem fs1_k1: (fs1.nodes.getD 1 zN).k=1:=by kernel_rfl
theorem Od: kj fs1 1 3 fDt:=by obtain⟨A,h,g⟩:=We;exact (h.write g (by omega) (i:=1) (by omega) ((h.A_at (by omega)).1.symm.trans fs1_k1) (by decide) (by decide) Xj).1
theorem fs2_n0: fs2.nodes[0]?=some fX0:=by kernel_rfl
theorem ZJ: fs2.nodes[1]?=some fX1:=by kernel_rfl
theorem fs2_k: fs2.k=80:=by kernel_rfl
theorem MH: rz (tc (secE fs2) fX1.P fX1.s) 2 9=[0,120,121,122]:=by kernel_rfl
theorem MG: rz (tc gS fX1.P fX1.s) 0 9=[0,0,0,120,121,122]:=by kernel_rfl
theorem NV: tc gS fX0.P fX0.s=fD1:=by kernel_rfl
theorem kH: ue fD1/\sI fD1=true/\(vz fD1 nmA).1=2/\(vz fD1 nmA).2.2=0:=⟨VB (by kernel_rfl),by kernel_rfl,by kernel_rfl,by kernel_rfl⟩
structure ZA (w:World) (b cap:Nat) (D:List Int):Prop where
 le:D.length<=cap
 cell:∀j,j<cap->∃i,w.cell? ⟨b,j,none⟩=some (.int .u8 i)
 fro:∀j,j<cap->w.frozen? ⟨b,j,none⟩=false
 at_:∀j x,D[j]?=some x->w.cell? ⟨b,j,none⟩=some (.int .u8 x)
section
variable {w w' : World} {b cap : Nat} {D : List Int}
theorem ZA.same (h:ZA w b cap D) (e:w'.heap[b]?=w.heap[b]?):ZA w' b cap D:=by
 have c:∀j,w'.cell? ⟨b,j,none⟩=w.cell? ⟨b,j,none⟩:=fun j=>vi e;have d:∀j,w'.frozen? ⟨b,j,none⟩=w.frozen? ⟨b,j,none⟩:=fun j=>by simp only[World.frozen?];rw[e]
 exact⟨h.1,fun j a=>by rw[c];exact h.2 j a,fun j a=>by rw[d];exact h.3 j a,fun j x a=>by rw[c];exact h.4 j x a⟩
theorem ZA.bytes (h:ZA w b cap D):vC w (b,0,D.length,cap) D:=by
 refine⟨by rw[vO,vD],zu ⟨b,0,cap,rfl,fun j x a=>?_⟩⟩;have c:j<D.length:=by have:=(zy.1 a).1;rwa [vO]at this
 rw[sJ D j c]at a;injection a with a;rw[yL,h.at_ j _ (zf c),a]
theorem yK.cells (F:Nat->Prop) (b:Nat) (a:F b):∀(vs:List Value) (o:Nat) (w:World),yK F w (w.setCells b o vs)
 | [],_,w=>yK.refl _ w
 | v::r,o,w=>(yK.setCell (p:=⟨b,o,none⟩) a v).step (yK.cells F b a r (o+1) _)
theorem ZA.set (h:ZA w b cap D) (o:Nat) (Dt:List Int) (p:o<=D.length) (r:o+Dt.length<=cap):ZA (w.setCells b o (u8s Dt)) b cap (over D o Dt):=by
 have k:(over D o Dt).length=max D.length (o+Dt.length):=by unfold over;simp;omega
 have d:∀j (a:j<Dt.length),(w.setCells b o (u8s Dt)).cell? (b,o+j)=some (.int .u8 Dt[j]):=fun j a=>by rw[World.cell?_setCells_in b (u8s Dt) o w (fun q l=>by rw[vO]at l;obtain⟨i,m⟩:=h.cell (o+q) (by omega);rw[m];rfl) j (by rw[vO];exact a)];simp[u8s]
 have c:∀j,j<o\/o+Dt.length<=j->(w.setCells b o (u8s Dt)).cell? ⟨b,j,none⟩=w.cell? ⟨b,j,none⟩:=fun j a=>World.cell?_setCells_out b _ o w _ (fun _ _=>by rw[vO];exact a);refine⟨by rw[k];have:=h.le;omega,fun j a=>?_,fun j a=>by rw[World.frozen?_setCells];exact h.fro j a,fun j x a=>?_⟩
 .by_cases e:j<o\/o+Dt.length<=j
  .rw[c j e];exact h.cell j a
  .have:=d (j-o) (by omega);rw[show o+(j-o)=j by omega]at this;exact⟨_,this⟩
 .have g:=(zy.1 a).1;rw[k]at g;unfold over at a;by_cases e:j<o
  .rw[c j (zt e)];rw[zO (by simp;omega),wM e]at a;exact h.at_ j x a
  .have f:(D.take o).length=o:=(by simp;omega);rw[zx (by omega),f]at a;by_cases n:j<o+Dt.length
   .rw[zO (by omega)]at a;have:=d (j-o) (by omega);rw[show o+(j-o)=j by omega]at this;rw[zf (by omega)]at a;injection a with a;rw[this,a]
   .rw[c j (zu (by omega))];rw[zx (by omega),yo,show o+Dt.length+(j-o-Dt.length)=j by omega]at a;exact h.at_ j x a
end
theorem j8 (k:Nat):(Builtin.zeroCells #[Value.int .u8 0] k).toList=u8s (List.replicate k 0):=by rw[j9];simp[u8s]
theorem SQ (D Dt:List Int):over D D.length Dt=D++Dt:=by unfold over;simp
theorem Qu (h:ZA w b cap D) (V:b<w.heap.size) (k:Nat) (X:D.length+k<=1000000) (W:TypeId):
 ∃b' cap' w',(Builtin.append_ #[23,3] W #[(b,0,D.length,cap),k]).run prog w=.ok (.slice (some ⟨b',0,none⟩) (D.length+k) cap') w' /\
  ZA w' b' cap' (D++List.replicate k 0)/\ZA w' b cap D/\yK (fun i=>i=b) w w'/\(b'=b\/w.heap.size<=b')/\b'<w'.heap.size:=by
 obtain⟨O,I,N,F,E⟩:=xp jt;have g:prog.underlying 3=some (.int .i64):=by kernel_rfl
 have e:(Value.int .u8 0).cells=#[Value.int .u8 0]:=rfl;by_cases Q:D.length+k<=cap
 .have H:=run_storeCells_cells (P:=prog) b 0 (u8s (List.replicate k 0)) D.length w (fun j a=>by
   rw[vO,zR]at a;obtain⟨i,J⟩:=h.cell (0+D.length+j) (by omega);rw[J];rfl) (fun j a=>by
   rw[vO,zR]at a;exact h.fro _ (by omega)) (oR _)
  rw[yL]at H;have z:=h.set D.length (List.replicate k 0) zL (by rw[zR];exact Q);rw[SQ]at z;refine⟨b,cap,w.setCells b D.length (u8s (List.replicate k 0)),?_,z,?_,yK.cells (fun i=>i=b) b rfl _ _ _,zt rfl,zm V (yK.cells (fun i=>i=b) b rfl _ _ _).size⟩
  .have T:IntKind.i64.wrap (k:Int)=k:=(by rw[IntKind.wrap_i64];omega);have C:¬((k:Int)<0):=(by omega);have G:¬(281474976710656<(k:Int)):=(by omega);have m:(⟨b,0,none⟩:Addr).add D.length=⟨b,D.length,none⟩:=(by unfold Addr.add;split<;>simp_all);have A:(storeCells ⟨b,D.length,none⟩ (u8s (List.replicate k 0)) 0).run prog w=.ok () (w.setCells b D.length (u8s (List.replicate k 0))):=by
    have:=run_storeCells_cells (P:=prog) b D.length (u8s (List.replicate k 0)) 0 w (fun j a=>by
     rw[vO,zR]at a;obtain⟨i,J⟩:=h.cell (D.length+0+j) (by omega);rw[J];rfl) (fun j a=>by
     rw[vO,zR]at a;exact h.fro _ (by omega)) (oR _)
    exact this
   by_cases L:k=0
   .subst L;simp[Builtin.append_,wy u8sT,wy g,sizeOf,typeInfo,I,F,E,asInt,asIntOf,h.le,show IntKind.i64.wrap 0=0 from rfl,storeCells,World.setCells,u8s]
   .have U:¬(k*1=0):=(by omega);simp[Builtin.append_,wy u8sT,wy g,sizeOf,typeInfo,zeroValue,I,N,F,E,asInt,asIntOf,T,C,G,Q,L,m,j8,e];have o:=A;simp only[u8s,List.map_replicate]at o ⊢;rw[o];rfl
  .refine⟨h.le,z.cell,z.fro,fun j x a=>z.at_ j x ?_⟩;rw[zO (zy.1 a).1];exact a
 .obtain⟨f,s⟩:∃c,c=grownCap w (D.length+k) cap 5:=⟨_,rfl⟩;have S:D.length+k<=f:=by rw[s];exact sD w _ _ _
  have u:(Builtin.firstCells O.size D.length (b,0,D.length,cap)).run prog w.drew=.ok (u8s D).toArray w.drew:=by rw[F];exact pm w.drew 1 D.length ⟨b,0,none⟩ D.length cap _ (by rw[vO,vD]) (fun q v R=>by have M:q<D.length:=(by have:=(zy.1 R).1;rwa [vO]at this);have m:(⟨b,0,none⟩:Addr).add q=⟨b,q,none⟩:=(by unfold Addr.add;split<;>simp_all);rw[m,show w.drew.cell? ⟨b,q,none⟩=w.cell? ⟨b,q,none⟩ from rfl,h.at_ q _ (zf M),<-sJ D q M,R])
  have n:=Lib.run_append_grow_zeros (P:=prog) w 23 3 W 5 O _ .i64 .i64 u8sT g I N (some ⟨b,0,none⟩) D.length cap (u8s D) u k (by have:=h.le;omega) (by rw[F];omega) (by omega) (by omega) (by rw[E];omega) (growslice_fits (by omega) (by rw[E];omega));rw[<-s,e]at n;have B:(u8s D).toArray++Builtin.zeroCells #[Value.int .u8 0] k++Builtin.zeroCells #[Value.int .u8 0] (f-(D.length+k))=(u8s (D++List.replicate k 0++List.replicate (f-(D.length+k)) 0)).toArray:=by apply mR.1;rw[po,po,j8,j8,qh,qh]
  rw[B]at n;obtain⟨K,t⟩:∃K,w.drew.alloc (.cells (u8s (D++List.replicate k 0++List.replicate (f-(D.length+k)) 0)).toArray 5)=K:=⟨_,rfl⟩;have r:Below w w (w.drew.alloc (.cells (u8s (D++List.replicate k 0++List.replicate (f-(D.length+k)) 0)).toArray 5)):=(zB.drew).alloc zL _;have d:(w.drew.alloc (.cells (u8s (D++List.replicate k 0++List.replicate (f-(D.length+k)) 0)).toArray 5)).heap[w.heap.size]?=some (.cells (u8s (D++List.replicate k 0++List.replicate (f-(D.length+k)) 0)).toArray 5 (0,0)):=zT w.drew _;have y:(D++List.replicate k (0:Int)++List.replicate (f-(D.length+k)) 0).length=f:=by simp;omega
  have l:∀j (a:j<(D++List.replicate k (0:Int)++List.replicate (f-(D.length+k)) 0).length),(w.drew.alloc (.cells (u8s (D++List.replicate k 0++List.replicate (f-(D.length+k)) 0)).toArray 5)).cell? (w.heap.size,j)=some (.int .u8 (D++List.replicate k (0:Int)++List.replicate (f-(D.length+k)) 0)[j]):=fun j a=>by rw[xR _ _ j _ _ _ d];simp only[xB];exact sJ _ j a
  rw[t]at n r d l;clear t;refine⟨w.heap.size,f,K,n,⟨by rw[zl,zR];omega,fun j a=>⟨_,l j (by rw[y];exact a)⟩,fun j a=>zF d,fun j x a=>?_⟩,h.same (r.block b V),yK.of_below r,zu zL,xL d⟩;have p:=(zy.1 a).1;rw[xR _ _ j _ _ _ d,xB,qh,zO (by rw[vO];exact p),sJ _ j p];rw[zf p]at a;injection a with a;rw[a]
theorem Rh (h:ZA w b cap D) (o:Nat) (s:vC w v Dt) (t:0<Dt.length) (q:o+Dt.length<=D.length) (p:Nat) (r:TypeId):
 (Builtin.copy_ #[23,23] r #[(b,o,(D.length-o),p),v]).run prog w=.ok (goInt Dt.length) (w.setCells b o (u8s Dt))/\ZA (w.setCells b o (u8s Dt)) b cap (over D o Dt):=by
 refine⟨?_,h.set o Dt (by omega) (by have:=h.le;omega)⟩;obtain⟨m,⟨n,_⟩|⟨f,e,c,rfl,k⟩⟩:=s
 .omega
 have:=run_copy_cells (P:=prog) w 23 23 r 5 b o (D.length-o) p ⟨f,e,none⟩ Dt.length c (u8s Dt) u8sT (by kernel_rfl) (by rw[vO];show _=min _ _;omega) (fun j x l=>by
  have a:(⟨f,e,none⟩:Addr).add j=⟨f,e+j,none⟩:=by unfold Addr.add;split<;>simp_all
  rw[a];exact k j x l) (fun j d=>by rw[vO]at d;obtain⟨i,g⟩:=h.cell (o+j) (by have:=h.le;omega);rw[g];rfl) (fun j d=>by rw[vO]at d;exact h.fro _ (by have:=h.le;omega)) (oR _)
 rw[vO]at this;exact this
theorem Up (w:World) (S:ByteArray):ZA (Lib.bytesWorld w 5 S) w (grownCap w S.size 0 5) (strI S):=by
 have f:S.size<=grownCap w S.size 0 5:=sD w _ _ _;have b:=r9 w 5 S;have l:(strI S).length=S.size:=by unfold strI;rw[yw,yp];rfl
 have n:(Lib.bytesCells w 5 S).size=grownCap w S.size 0 5:=by unfold Lib.bytesCells;rw[Array.size_append,Array.size_map,Array.size_replicate];show S.size+_=_;omega
 refine⟨by rw[l];exact f,fun j a=>?_,fun j a=>?_,fun j x a=>?_⟩
 .rw[xR _ _ j _ _ _ b];unfold Lib.bytesCells;rw[Array.getElem?_append];split
  .rename_i e;rw[Array.getElem?_map,xt (by simpa using e)];exact⟨_,rfl⟩
  .rename_i e;rw[sP,ze (by simp at e ⊢;omega)];exact⟨0,rfl⟩
 .simp only[World.frozen?,b,Bool.and_eq_false_iff,zJ];left;have p:j<(Lib.bytesCells w 5 S).size:=by rw[n];exact a
  exact Nat.not_le.2 p
 .obtain⟨_,⟨e,_⟩|⟨g,o,c,k,m⟩⟩:=(kR w S).1
  .have:=(zy.1 a).1;omega
  .injection k with h s t;injection h with h;injection h with q i r;have d:=(zy.1 a).1;have:=m j _ (sJ (strI S) j d);rw[zf d]at a;injection a with a;rw[<-q,<-i,yL,a]at this;exact this
section
variable {w w1 : World} {b : Nat} {C : Array Value} {t : TypeId} {fr : Nat×Nat}
theorem L9 {G:Nat->Prop} {n:Nat} {xs:List Value} (h:Out G w (fun w'=>xT w' v k n xs)) (S:∀x∈xs,∀i,x≠.int .u8 i) (T:∀j x,w.cell? ⟨b,j,none⟩=some x->∃i,x=.int .u8 i) (R:yK (fun i=>i=b) w w1):Out G w1 (fun w'=>xT w' v k n xs):=by
 intro Q m;obtain⟨D,H⟩:=h.now;refine⟨D,H.imp id ?_⟩;rintro ⟨g,u,r,rfl,L⟩;refine⟨g,u,r,rfl,fun j x e=>?_⟩;have d:=L j x e;have C:=zG d;have y:g≠b:=by rintro rfl;obtain⟨i,I⟩:=T _ _ d;exact S x (xK e) i I
 have p:¬G g:=fun J=>by
  obtain⟨_,⟨s,E⟩|⟨N,A,B,s,E⟩⟩:=h (w.setRow g #[]) (yK.setRow J #[])
  .have:xs.length=0:=(by rw[D,s,um]);rw[yG.1 this]at e;cases e
  .injection s with z O P;injection z with z;injection z with K F M;have q:=E j x e;rw[<-K,<-F]at q;have a:∃c t f,w.heap[g]?=some (.cells c t f):=by
    cases l:w.heap[g]? with
    | none=>simp[World.cell?,l]at d
    | some o=>
     cases o with
     | cells c t f=>exact⟨c,t,f,rfl⟩
     | _=>simp[World.cell?,l]at d
   obtain⟨c,t,f,l⟩:=a;rw[zC (yi w g c #[] t f l)]at q;simp at q
 rw[vi ((m.block g (zm C R.size) p).trans (R.block g C y))];exact d
theorem Tc (l:List Int):∀x∈ints l,∀i,x≠Value.int .u8 i:=fun x a i h=>by unfold ints at a;obtain⟨y,_,rfl⟩:=zV.1 a;injection h with h;cases h
theorem SK (l:List (Int×Int)):∀x∈wT l,∀i,x≠Value.int .u8 i:=fun x a i h=>by unfold wT at a;obtain⟨y,_,b⟩:=wU.1 a;subst h;simp at b
theorem Pu (l:List Nd):∀x∈uu l,∀i,x≠Value.int .u8 i:=fun x a i h=>by unfold uu at a;obtain⟨y,_,b⟩:=wU.1 a;subst h;simp[nd8]at b
theorem FsAt.bytes (h:FsAt w gf s F a) (hn:¬F b) (hr:w.heap[b]?=some (.cells C t fr)) (hf:fr≠(0,0)) (hC:∀j x,w.cell? ⟨b,j,none⟩=some x->∃i,x=.int .u8 i) (hk:yK (fun i=>i=b) w w1):FsAt w1 gf s F a:=by
 obtain⟨⟨G,T,W,bt,bh,E,H,FD,Q,I,z,N,S,A,R,Y,B,q,u,d,n,o,r,k,p⟩,D,a2,y,V,U,a6,K⟩:=h;have l:∀g,F g->w1.heap[g]?=w.heap[g]? :=fun g m=>hk.block g (y g m) (fun e=>hn (e▸m));refine⟨⟨G,T,W,bt,bh,E,H,FD,(l _ D).trans Q,I.keep hk (fun i v e=>hn (e▸z i v)),z,N,(l _ A).trans S,A,L9 R (SK _) hC hk,L9 Y (Pu _) hC hk,
  ⟨B.1,fun i P q2=>?_⟩,q.of_block (l _ d),u.keep (fun g c m f=>⟨hk.block g (xL f) (fun e=>?_),m⟩),d,n,o,r.of_block (l _ k),k,p⟩,D,a2,fun i v=>zm (y i v) hk.size,V,U,a6,K⟩
 .obtain⟨n1,O,L,M,J,X,Z,n8⟩:=B.2 i P q2;exact⟨n1,O,L,M,J,X,Z,L9 n8 (Tc _) hC hk⟩
 .rw[e,hr]at f;injection f with f;injection f with e1 e2 e3;exact hf e3
end
theorem So (w:World) (S:ByteArray) (j:Nat) (x:Value) (h:(Lib.bytesWorld w 5 S).cell? (w.heap.size,j)=some x):∃i,x=.int .u8 i:=by
 rw[xR _ _ j _ _ _ (r9 w 5 S)]at h;unfold Lib.bytesCells at h;rw[Array.getElem?_append]at h;split at h
 .rename_i a;rw[Array.getElem?_map,xt (by simpa using a)]at h;injection h with h;exact⟨_,h.symm⟩
 .rename_i a;rw[sP]at h;split at h
  .injection h with h;exact⟨0,h.symm⟩
  .cases h
