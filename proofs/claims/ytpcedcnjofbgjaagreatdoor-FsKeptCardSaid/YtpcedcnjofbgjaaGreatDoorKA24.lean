import Derived.Test.YtpcedcnjofbgjaaGreatDoorKA23
import Derived.Lib.ConvBytes
import Derived.Lib.SlBytesConst
import Derived.Deep.SlicePairs
set_option maxHeartbeats 0
set_option linter.all false
set_option maxRecDepth 100000
namespace Go.Proofs.YtpcedcnjofbgjaaGreatDoor
open Go.Proofs.Tryz Go.RowKit
variable {D:List Int} {F:Nat->Prop} {L:List Pn} {a:Addr} {e t:TypeId} {f:Fo} {f0 f1 f2 f3 f4:Field} {gf i j k:Nat} {nd:Nat->Int} {s:Fs} {v:Value} {w:World}
abbrev Lg:=@Lib.run_convert_string_bytes
def strI (s:ByteArray):List Int:=s.data.toList.map λb=>b.toNat
def symM (s:Fs) (i:Nat) (D:List Int) (name tells:ByteArray) (u g:Int):(Int×Int)×Fs:=
 if 64<tells.size then ((0,1),s) else addM s i D name 3 511 u g (strI tells)
theorem DD (w) (i) (name tells) (u g) (c:(tells.toList==[])=false) (d:64<tells.size):
 Calls prog 40 #[(gf,()),(i:Int),.string name,.string tells,(u:Int),(g:Int)] w (λe w'=>e=.returned (.tuple #[(),(1:Int)])/\w=w'):=by
 have b:decide (64<(tells.size:Int))=true:=zX (by lia);have a:64<(tells.size:Int):=by lia
 go_enter func40,ntmps40
 go_wp2;go_ret2;simp
theorem MP (w:World) (S):Below w w (Lib.bytesWorld w 5 S):=⟨rfl,rfl,rfl,by rw[Lib.bytesWorld_size];lia,λk a=>Lib.bytesWorld_at_old _ _ _ _ a⟩
theorem Kv (w) (tells):mU (Lib.bytesWorld w 5 tells) (.slice (some ⟨w.heap.size,0,none⟩) tells.size (grownCap w tells.size 0 5)) (strI tells):=by
 have a:(strI tells).length=tells.size:=by rw[strI,yD,ye];rfl
 refine⟨⟨by simp[u8s],zw ⟨w.heap.size,0,grownCap w tells.size 0 5,by rw[a],λr u d=>?_⟩⟩,λp n c f=>?_⟩
 .have b:r<tells.size:=by have:=(zG.1 d).1;rwa[wd,a]at this
  rw[yF,Lib.bytesWorld_cell w _ tells r b];rw[Ch _ _ (by rwa[a])]at d;injection d with d;rw[<-d];have e:r<tells.data.toList.length:=by rw[ye];exact b
  simp only[strI,uv];rw[zt,zk e];rfl
 .injection f with i h g;rw[<-h,<-g];exact MO _ _ _ _
theorem JZ (h:FsAt w gf s F a) (i) (X) (D) (L:DirS s i X D) (name) (J:tM name=true) (tells) (K:(tells.toList==[])=false) (u g) (N:0<=u/\u<=255) (O:0<=g/\g<=255)
 (I:tells.size<=64->NC D name=0->∀n,Rx s=some n->Tk s i n (newP 3 511 u g i) (strI tells) name):
 Calls prog 40 #[(gf,()),(i+1:Int),.string name,.string tells,(u:Int),(g:Int)] w
  (ρ (.tuple #[.int .i64 (symM s i D name tells u g).1.1,.int .i64 (symM s i D name tells u g).1.2]) λw'=>pW w gf (symM s i D name tells u g).2 F a w'):=by
 unfold symM;by_cases f:64<tells.size
 .rw[ze f];exact (DD w _ name tells u g K f).mono λe w' ⟨r,d⟩=>⟨r,d▸pW.same h zB⟩
 rw[zb f];have x:=Lg (P:=prog) w 9 38 5 tells underlying9 underlying38 underlying5;have b:=MP w tells;have k:(strI tells).length=tells.size:=by unfold strI;rw[yD,ye];rfl
 have l:=za b;have p:=za (DF (h.below b) i X D L name J 3 511 u g (w.heap.size,0,tells.size,(grownCap w tells.size 0 5)) (strI tells) (Kv w tells) (by rw[k];lia) (λq j=>by injection j with j;have y:w.heap.size=q:=j;rw[Lib.bytesWorld_size];lia) (I (by lia)));obtain⟨M,m⟩:∃M,addM s i D name 3 511 u g (strI tells)=M:=⟨_,rfl⟩;rw[m]at p |-;let⟨⟨B,E⟩,C⟩:=M;have A:decide (64<(tells.size:Int))=false:=zJ (by lia);have G:¬64<(tells.size:Int):=by lia
 have t:=za (jL u g N O w);clear m h L I b N O;go_enter func40,ntmps40;go_wp2_with fail
 refine t.o.mono ?_;rintro e z ⟨rfl,rfl⟩;go_wp2_with fail
 refine p.o.mono ?_;rintro e H ⟨rfl,d⟩;have v:=za (d.after l);go_wp2;go_ret2;exact⟨rfl,v⟩
structure DoI where
 K:Int
 A:Int
 B:Int
 C:Int
 S:ByteArray
def atN (s:Fs) (x:Int):Nat:=((RA s).getD (pk x (RA s).length).toNat 0-1).toNat
def inoN (s:Fs) (x:DoI):Int:=(rI (dirB s (atN s x.A)) (nmOf x.B)).1
def tS (S:ByteArray):ByteArray:=⟨#[116]⟩++S
def doM (s:Fs) (x:DoI):Int×Fs:=
 let i:=atN s x.A
 let j:=atN s x.B
 let n:=(inoN s x-1).toNat
 let D:=dirB s i
 let E:=dirB s j
 match (pk x.K 12).toNat with
 | 0=>((addM s i D (nmOf x.B) 1 420 (pk x.C 3) 0 []).1.2,(addM s i D (nmOf x.B) 1 420 (pk x.C 3) 0 []).2)
 | 1=>((addM s i D (nmOf x.B) 2 493 (pk x.C 3) 0 []).1.2,(addM s i D (nmOf x.B) 2 493 (pk x.C 3) 0 []).2)
 | 2=>if inoN s x=0 then (4,s) else ((wrtM s n (pk x.C 512).toNat (strI x.S)).1.2,(wrtM s n (pk x.C 512).toNat (strI x.S)).2)
 | 3=>unlM s i D (nmOf x.B)
 | 4=>movM s i j D E (nmOf x.C) (nmOf x.B)
 | 5=>if inoN s x=0 then (4,s) else cutM s n (pk x.C 512).toNat
 | 6=>if inoN s x=0 then (4,s) else lnkM s j n E (nmOf x.C)
 | 7=>((symM s i D (nmOf x.B) (tS x.S) (pk x.C 3) 0).1.2,(symM s i D (nmOf x.B) (tS x.S) (pk x.C 3) 0).2)
 | 8=>if inoN s x=0 then (4,s) else ownM s n (pk x.C 3) 0
 | 9=>rO s (pk x.B 3) (pk x.C 20-1)
 | 10=>(0,ZA s)
 | _=>if pk x.B 2=0 then ((ZJ s).1.2,(ZJ s).2) else je s (1+pk x.C 3).toNat
structure DoOk (s:Fs) (x:DoI):Prop where
 len:x.S.size<=600
 c0:pk x.K 12=0->NC (dirB s (atN s x.A)) (nmOf x.B)=0->∀n,Rx s=some n->Tk s (atN s x.A) n (newP 1 420 (pk x.C 3) 0 (atN s x.A)) [] (nmOf x.B)
 c1:pk x.K 12=1->NC (dirB s (atN s x.A)) (nmOf x.B)=0->∀n,Rx s=some n->Tk s (atN s x.A) n (newP 2 493 (pk x.C 3) 0 (atN s x.A)) [] (nmOf x.B)
 c2:pk x.K 12=2->inoN s x≠0->(s.nodes.getD (inoN s x-1).toNat zN).k=1->(pk x.C 512).toNat+(strI x.S).length<=512->0<(strI x.S).length->FP s (inoN s x-1).toNat (pk x.C 512).toNat (strI x.S)
 c3:pk x.K 12=3->(rI (dirB s (atN s x.A)) (nmOf x.B)).2.2=0->¬((s.nodes.getD ((rI (dirB s (atN s x.A)) (nmOf x.B)).1-1).toNat zN).k=2/\0<(s.nodes.getD ((rI (dirB s (atN s x.A)) (nmOf x.B)).1-1).toNat zN).s)->Ys s (atN s x.A) ((rI (dirB s (atN s x.A)) (nmOf x.B)).1-1).toNat (nmOf x.B)
 up:∀X∈s.nodes,0<=X.up/\X.up<=32
 c4:pk x.K 12=4->(rI (dirB s (atN s x.A)) (nmOf x.C)).2.2=0->movO (dirB s (atN s x.B)) (nmOf x.B)≠some ((rI (dirB s (atN s x.A)) (nmOf x.C)).1-1).toNat->movE s (atN s x.B) ((rI (dirB s (atN s x.A)) (nmOf x.C)).1-1).toNat (movO (dirB s (atN s x.B)) (nmOf x.B))=0->FR s (atN s x.A) (atN s x.B) ((rI (dirB s (atN s x.A)) (nmOf x.C)).1-1).toNat (nmOf x.C) (nmOf x.B) (movO (dirB s (atN s x.B)) (nmOf x.B))
 c5:pk x.K 12=5->inoN s x≠0->(s.nodes.getD (inoN s x-1).toNat zN).k=1->Iz s (inoN s x-1).toNat (pk x.C 512).toNat
 c6:pk x.K 12=6->inoN s x≠0->(0<=(s.nodes.getD (inoN s x-1).toNat zN).l/\(s.nodes.getD (inoN s x-1).toNat zN).l<=200)/\((s.nodes.getD (inoN s x-1).toNat zN).k≠0->(s.nodes.getD (inoN s x-1).toNat zN).k≠2->(s.nodes.getD (inoN s x-1).toNat zN).l≠0->(s.nodes.getD (inoN s x-1).toNat zN).l≠200->NC (dirB s (atN s x.B)) (nmOf x.C)=0->Ix s (atN s x.B) (inoN s x-1).toNat (nmOf x.C))
 c7:pk x.K 12=7->(tS x.S).size<=64->NC (dirB s (atN s x.A)) (nmOf x.B)=0->∀n,Rx s=some n->Tk s (atN s x.A) n (newP 3 511 (pk x.C 3) 0 (atN s x.A)) (strI (tS x.S)) (nmOf x.B)
 c8:pk x.K 12=8->inoN s x≠0->(s.nodes.getD (inoN s x-1).toNat zN).k≠0->P6 s ((tx0 s).setX (inoN s x-1).toNat (chgP (s.nodes.getD (inoN s x-1).toNat zN) (pk x.C 3) 0))
 q:okQ s.rows=true
 c9:pk x.K 12=9->PV s.rows (pk x.B 3) (pk x.C 20-1)=false->(setQ s.rows (pk x.B 3) (pk x.C 20-1)).length<=20/\P6 s {tx0 s with rows:=setQ s.rows (pk x.B 3) (pk x.C 20-1)}
 c10:pk x.K 12=10->WV s
 c11:pk x.K 12=11->(uQ s.fo).2.2=0->P6 s {tx0 s with fo:=(uQ s.fo).1}
 c12:pk x.K 12=11->uB s.fo (1+pk x.C 3).toNat=true->P6 s {tx0 s with fo:=delT s.fo (1+pk x.C 3).toNat}
section
variable {s : Fs} {n c i : Nat} {A : Nat->AN}
theorem Ra {s:Fs}:∀{l} {out},out.Nodup->(Nf s out l).Nodup
 | [],_,h=>h
 | x::l,out,h=>by
  unfold Nf;split
  .rename_i e;refine Ra (wl.2 ⟨h,by simp,λa d b c=>?_⟩);rw[xZ]at c;subst c;rintro rfl;simp[d]at e
  .exact Ra h
theorem WN (i:RQ s):∀(f k) {out},DlOk s out->out.Nodup->0<out.length->DlOk s (D7 s f k out)/\(D7 s f k out).Nodup/\0<(D7 s f k out).length
 | 0,_,_,a,b,c=>⟨a,b,c⟩
 | f+1,k,out,a,b,c=>by
  unfold D7;split
  .rename_i d;have e:=a (out.getD k 0) (by rw[zt,zk d.1];exact Nj d.1);have g:=Z4 (i.1 (out.getD k 0-1).toNat (by lia) e.2.2);have h:=OQ a g.2;exact WN i f (k+1) h.1 (Ra b) (by lia)
  .exact⟨a,b,c⟩
theorem TF (c:RQ s):DlOk s (RA s)/\(RA s).Nodup/\0<(RA s).length/\(RA s).length<=32:=by
 have h:=WN c 33 0 (out:=[1]) (λn a=>by rw[xZ]at a;subst a;exact⟨by lia,by lia,c.2⟩) (by simp) (by simp);refine⟨h.1,h.2.1,h.2.2,?_⟩;have:=ss h.2.1 (ys:=(List.range 32).map λj:Nat=>(j:Int)+1) λz b=>by have:=h.1 z b;exact yd.2 ⟨(z-1).toNat,xy.2 (by lia),by lia⟩
 rwa[yD,MB]at this
theorem pD (g:RQ s) (y):atN s y<32/\(s.nodes.getD (atN s y) zN).k=2:=by
 let⟨c,_,f,e⟩:=TF g;have d:=tX y (RA s).length (by lia) (by lia);unfold atN;have a:(pk y (RA s).length).toNat<(RA s).length:=by lia
 have b:=c ((RA s).getD (pk y (RA s).length).toNat 0) (by rw[zt,zk a];exact Nj a);exact⟨by lia,b.2.2⟩
theorem iG (S):(strI S).length=S.size/\qC (strI S):=by refine⟨by rw[strI,yD,ye];rfl,λy a=>?_⟩;obtain⟨b,_,rfl⟩:=yd.1 a;have:=b.toNat_lt;lia
theorem SI.found (n:SI s c A) (g:GI A λ_=>0) (l:i<32) (m:(A i).k=2) (name):
 (∃e∈outD (A i).D,e.1=name/\(rI (dirB s i) name).1=e.2/\(rI (dirB s i) name).2.2=0/\1<=e.2/\e.2<=32/\(A (e.2-1).toNat).k≠0)\/((∀e∈outD (A i).D,e.1≠name)/\(rI (dirB s i) name).1=0/\(rI (dirB s i) name).2.2=4):=by
 rw[(n.A_at l).2.2.2.2.2.2.2];rcases ZV (g.ok i l m) name with⟨e,b,f,d,j⟩|h
 .have a:e∈kW (A i):=by rw[kW,ze m];exact b
  have:=g.to l a;exact zu ⟨e,b,f,d,j,this.1,this.2,g.ino i l e a⟩
 .exact zw h
theorem SI.ino (m:SI s c A) (g:GI A λ_=>0) (x) (h:inoN s x≠0):(inoN s x-1).toNat<32/\(A (inoN s x-1).toNat).k≠0:=by
 let⟨b,i⟩:=pD (m.dirsOk g) x.A;unfold inoN at h |-;rcases m.found g b ((m.A_at b).1.symm.trans i) (nmOf x.B) with⟨e,_,_,a,_,j,l,f⟩|⟨_,a,_⟩
 .rw[a];exact⟨by lia,f⟩
 .exact yi a h
structure DX (x:Tx) (s:Fs) (σ:Nat->Nat):Prop where
 nd:x.fo.nd 0=s.fo.nd 0
 cl:∀i:Nat,i<32->getZ x.dirty ((i:Int)+1)=none->x.nodes.getD i zN=s.nodes.getD i zN
 tr:∀t,1<=t->t<4->uB x.fo t=true->σ t<4/\uB s.fo (σ t)=true/\x.fo.nd t=s.fo.nd (σ t)/\x.fo.hs t=s.fo.hs (σ t)
 id:∀t,1<=t->t<4->uB s.fo t=true->σ t=t
theorem DI.dx {x:Tx} (h:DI x s):DX x s id:=⟨by rw[h.nd],h.cl,λt c b a=>⟨b,by unfold uB at a |-;rwa[<-h.nd],by rw[h.nd];rfl,h.hs t c⟩,λ_ _ _ _=>rfl⟩
def JK (s s':Fs):Prop:=∀B,SJ s B->∃B',SJ s' B'/\∀t,1<=t->t<4->uB s'.fo t=true->uB s.fo t=true->B' t=B t
theorem JK.same (s):JK s s:=λB h=>⟨B,h,λ_ _ _ _ _=>rfl⟩
theorem SI.fin (p:SI s c A) (g:GI A λ_=>0) (q:c<2000) {x:Tx} {T:List Nat} {A':Nat->AN} (t:TV x s n T A') (v:GI A' λ_=>0) (r:RI A->RI A') (w:ZQ x.rows=0) (y:64*T.length+n<=208) {σ:Nat->Nat} (d:DX x s σ):
 SI (endS s x) (c+1) (if endE s x=0 then A' else A)/\(GI (if endE s x=0 then A' else A) λ_=>0)/\(RI A->RI (if endE s x=0 then A' else A))/\(RI A->JK s (endS s x)):=by
 by_cases i:endE s x=0
 .rw[ze i];refine⟨(t.done p q w y i).1,v,r,λl B h=>⟨λu=>if u=0 then (x.nodes,A') else B (σ u),?_,λu k j _ m=>?_⟩⟩
  .exact h.ends p q t w y i v (r l) d.nd d.cl rfl λu k j o=>have⟨a,b,e,f⟩:=d.tr u k j o;⟨σ u,a,b,e,f,zb (by lia)⟩
  .show (if u=0 then _ else _)=_;rw[zb (by lia),d.id u k j m]
 .rw[zb i];have:endS s x=s:=zb i;rw[this];exact⟨p.mono (by lia) q,g,id,λ_=>JK.same s⟩
theorem R8 (h:(uQ f).2.2=0):uB f 0=true/\∃k,1<=k/\k<4/\uB f k=false/\(uQ f).1=putT f k/\(uQ f).2.1=k:=by
 unfold uQ at h |-;split at h
 .next d=>
  rw[ze d];refine⟨d,?_⟩;unfold W8 at h |-;by_cases a:uB f 1=false
  .rw[ze a];exact⟨1,by lia,by lia,a,rfl,rfl⟩
  .rw[zb a]at h |-;by_cases b:uB f 2=false
   .rw[ze b];exact⟨2,by lia,by lia,b,rfl,rfl⟩
   .rw[zb b]at h |-;by_cases c:uB f 3=false
    .rw[ze c];exact⟨3,by lia,by lia,c,rfl,rfl⟩
    .rw[zb c]at h;cases h
 .cases h
theorem VO (h:(uQ s.fo).2.2=0):DX {tx0 s with fo:=(uQ s.fo).1} s λt=>if t=(uQ s.fo).2.1 then 0 else t:=by
 let⟨g,k,l,j,i,e,f⟩:=R8 h;rw[e,f];refine⟨zb (by lia),λ_ _ _=>rfl,λt d b a=>?_,λt d b a=>?_⟩
 .show (if t=k then 0 else t)<4/\uB s.fo (if t=k then 0 else t)=true/\(if t=k then s.fo.nd 0 else s.fo.nd t)=s.fo.nd (if t=k then 0 else t)/\(if t=k then s.fo.hs 0 else s.fo.hs t)=s.fo.hs (if t=k then 0 else t);have a:uB (putT s.fo k) t=true:=a;rw[ja]at a;by_cases c:t=k
  .simp only[c,Mt];exact⟨by lia,g,trivial,trivial⟩
  .simp only[c,mY]at a |-;exact⟨b,a,trivial,trivial⟩
 .rw[zb];rintro rfl;rw[i]at a;cases a
theorem Z9 (s) (e:1<=k):DX {tx0 s with fo:=delT s.fo k} s id:=by
 refine⟨zb (by lia),λ_ _ _=>rfl,λt d c a=>?_,λ_ _ _ _=>rfl⟩;have a:uB (delT s.fo k) t=true:=a;by_cases b:t=k
 .subst b;unfold uB delT at a;simp at a
 .refine⟨c,?_,zb b,zb b⟩;unfold uB delT at a;simp only[zb b]at a;exact a
theorem SI.stay (a:SI s c A) (g:GI A λ_=>0) (b:c<=1000):∃A',SI s (c+1) A'/\(GI A' λ_=>0)/\(RI A->RI A')/\(RI A->JK s s):=⟨A,a.mono (by lia) (by lia),g,id,λ_=>JK.same s⟩
theorem SI.addM (p:SI s c A) (g:GI A λ_=>0) (v:c<=1000) (w:i<32) (q:(A i).k=2) {k m u gg:Int} (x:1<=k/\k<=3/\0<=m/\m<=511/\0<=u/\u<=255/\0<=gg/\gg<=255) {b:List Int} (y:b.length<=512/\qC b) (t:k=2->b=[]) (D) (name):
 ∃A',SI (addM s i D name k m u gg b).2 (c+1) A'/\(GI A' λ_=>0)/\(RI A->RI A')/\(RI A->JK s (addM s i D name k m u gg b).2):=by
 unfold Go.Proofs.YtpcedcnjofbgjaaGreatDoor.addM;split
 .cases a:Rx s with
  | none=>exact p.stay g v
  | some n=>
   let⟨_,l,f⟩:=p.add g v w q a x y t name;simp only;rw[l];split
   .rename_i d;let⟨o,e⟩:=p.free a;exact⟨_,p.fin g (by lia) (f d).1 (f d).2 (λr=>r.add g.root ((p.new g w o e x y t (i:=i)).2) w q e (λh=>ze h) (by rwa[qH _ _ (g.ne q e)]) rfl) p.rows (by simp) ((((LA s).set _ _).fill ..).ent ..).dx⟩
   .exact p.stay g v
 .exact p.stay g v
theorem mr (x:Tx) (s) (i) (a):(x.leaX s i a).rows=x.rows:=by unfold Tx.leaX Tx.fillX Tx.wow;split<;>rfl
theorem Sw (x:Tx) (s) (i):(x.dropX s i).rows=x.rows:=by unfold Tx.dropX Tx.freeX Tx.setX;split<;>rfl
theorem SI.unlM (w:SI s c A) (g:GI A λ_=>0) (y:c<=1000) (x:i<32) (v:(A i).k=2) (name):
 ((
  rI (dirB s i) name).2.2=0->¬((s.nodes.getD ((rI (dirB s i) name).1-1).toNat zN).k=2/\0<(s.nodes.getD ((rI (dirB s i) name).1-1).toNat zN).s)->Ys s i ((rI (dirB s i) name).1-1).toNat name) /\
  ∃A',SI (unlM s i (dirB s i) name).2 (c+1) A'/\(GI A' λ_=>0)/\(RI A->RI A')/\(RI A->JK s (unlM s i (dirB s i) name).2):=by
 rcases w.found g x v name with⟨e,f,rfl,m,l,u,p,q⟩|⟨_,m,l⟩
 .have j:(((e.2-1).toNat))+1=e.2:=by lia
  have d:=w.A_at (i:=(e.2-1).toNat) (by lia);simp only[Go.Proofs.YtpcedcnjofbgjaaGreatDoor.unlM,m,l,Mt,d.1,d.2.2.2.2.1];refine⟨λ_ a=>(w.unlink g y x v f j a).1,?_⟩;split
  .exact w.stay g y
  .rename_i a;let⟨_,t,o⟩:=w.unlink g y x v f j a;have b:e∈kW (A i):=(by rw[kW,ze v];exact f);have n:=g.noRoot rfl x b;exact⟨_,w.fin g (by lia) t o (λr=>r.unlink g x v b j (by lia) (by lia) λ_=>mj ((w.tv [i]).len w.sec (by lia)) a) (by rw[Sw,mr];exact w.rows) (by simp) (((LA s).lea ..).drop ..).dx⟩
 .refine⟨λh=>by lia,?_⟩;unfold Go.Proofs.YtpcedcnjofbgjaaGreatDoor.unlM;simp only;rw[zb (by lia)];exact w.stay g y
theorem L5 {a:AN} (b:(A n).k≠2) (c:a.k≠2) (d:a.k=(A n).k) (e:a.up=(A n).up) {m:Nat}:(upA A n a m).k=(A m).k/\(upA A n a m).up=(A m).up/\kW (upA A n a m)=kW (A m):=by
 unfold upA;split
 .next h=>subst h;exact⟨d,e,by unfold kW;rw[zb b,zb c]⟩
 .exact⟨rfl,rfl,rfl⟩
theorem RI.like (r:RI A) (b:(A 0).k=2) {a:AN} (c:(A n).k≠2) (d:a.k≠2) (e:a.k=(A n).k) (f:a.up=(A n).up):RI (upA A n a):=r.same b λ_=>L5 c d e f
theorem SI.lnkM (u:SI s c A) (g:GI A λ_=>0) (w:c<=1000) (y:i<32) (v:(A i).k=2) (x:n<32) (name):∃A',SI (lnkM s i n (dirB s i) name).2 (c+1) A'/\(GI A' λ_=>0)/\(RI A->RI A')/\(RI A->JK s (lnkM s i n (dirB s i) name).2):=by
 have e:=u.A_at x;unfold Go.Proofs.YtpcedcnjofbgjaaGreatDoor.lnkM;simp only;rw[e.1,e.2.2.2.2.2.1];split
 .exact u.stay g w
 split
 .exact u.stay g w
 split
 .exact u.stay g w
 split
 .exact u.stay g w
 rename_i j b _ p;let⟨_,q,m⟩:=u.link g w y v x (λh=>j (zu h)) b p name;rw[q];split
 .rename_i f;have d:i≠n:=by rintro rfl;exact b v
  exact⟨_,u.fin g (by lia) (m f).1 (m f).2 (λr=>(RI.like (a:={A n with l:=(A n).l+1}) r g.root b b rfl rfl).enter (g.set x {A n with l:=(A n).l+1} (λh=>j (zu h)) (by unfold kW;rw[zb b]) (λh=>yi h b) (by have:=g.pos n x (λh=>j (zu h));show 1<=(A n).l+1;lia) (λt=>by subst t;exact yi g.root b)) y (by rwa[qH _ _ d]) (by rwa[qH _ _ d])) u.rows (by simp) (((LA s).set _ _).ent ..).dx⟩
 .exact u.stay g w
theorem SI.moved (N:SI s c A) (g:GI A λ_=>0) (r:RI A) (R:i<32) (M:(A i).k=2) (O:j<32) (L:(A j).k=2) {e:En} (S:e∈outD (A i).D) (T:n+1=e.2) {b:ByteArray} {o:Option Nat}
 (P:o≠some n) (U:∀m,o=some m->∃f∈outD (A j).D,f.1=b/\m+1=f.2) (Q:∀m,o=some m->((A m).k=2↔(A n).k=2)/\¬((A n).k=2/\0<(A m).s)) (K:movE s j n o=0) (V:vA (movB A i j e.1 b o j).D (b,n+1)=0):RI (movA A i j n e.1 b o):=by
 have l:e∈kW (A i):=by rw[kW,ze M];exact S
 have z:=g.to R l;have a:n<32:=by lia
 have u:∀m,o=some m->m≠n/\m≠0/\m<32/\(∃f∈kW (A j),f.1=b/\m+1=f.2)/\((A m).k=2->kW (A m)=[]):=λm v=>by
  let⟨f,F,B,y⟩:=U m v;have d:f∈kW (A j):=by rw[kW,ze L];exact F
  have J:=g.to O d;have I:=g.noRoot rfl O d;let⟨C,H⟩:=Q m v;exact⟨λw=>P (by rw[v,w]),by lia,by lia,⟨f,d,B,y⟩,λh=>mj ((N.tv [i]).len N.sec (by lia)) λw=>H ⟨C.1 h,w.2⟩⟩
 have p:(A n).k=2->∀t,upI A t j≠n:=λx=>by
  refine N.bel r g.root a O L ?_;unfold movE at K;rw[(N.A_at a).1]at K;cases o with
  | none=>
   dsimp only at K;split at K
   .lia
   .rename_i h;simpa[x]using h
  | some m=>
   dsimp only at K;split at K
   .split at K
    .lia
    .split at K
     .lia
     .rename_i h;simpa[x]using h
   .lia
 let⟨G,q⟩:=N.moveG g R M O L S T P U Q;exact r.moves g R M O L l T u p G q V
theorem SI.movM (S:SI s c A) (g:GI A λ_=>0) (V:c<=1000) (W:i<32) (T:(A i).k=2) (X:j<32) (U:(A j).k=2) (a b) (Y:tM b=true):
 ((
  rI (dirB s i) a).2.2=0->movO (dirB s j) b≠some ((rI (dirB s i) a).1-1).toNat->movE s j ((rI (dirB s i) a).1-1).toNat (movO (dirB s j) b)=0->FR s i j ((rI (dirB s i) a).1-1).toNat a b (movO (dirB s j) b)) /\
  ∃A',SI (movM s i j (dirB s i) (dirB s j) a b).2 (c+1) A'/\(GI A' λ_=>0)/\(RI A->RI A')/\(RI A->JK s (movM s i j (dirB s i) (dirB s j) a b).2):=by
 rcases S.found g W T a with⟨e,z,rfl,F,B,P,L,M⟩|⟨_,F,B⟩
 .have y:(((e.2-1).toNat))+1=e.2:=by lia
  have v:∀m,movO (dirB s j) b=some m->m<32/\∃f∈outD (A j).D,f.1=b/\m+1=f.2:=λm d=>by
   unfold movO at d;rcases S.found g X U b with⟨f,H,rfl,C,G,R,Q,O⟩|⟨_,C,G⟩
   .rw[C,G,ze rfl]at d;injection d with d;exact⟨by lia,f,H,rfl,by lia⟩
   .rw[zb (by lia)]at d;cases d
  have n:movE s j (e.2-1).toNat (movO (dirB s j) b)=0->∀m,movO (dirB s j) b=some m->((A m).k=2↔(A (e.2-1).toNat).k=2)/\¬((A (e.2-1).toNat).k=2/\0<(A m).s):=λq m d=>by
   have t:=S.A_at (v m d).1;rw[d]at q;unfold movE at q;simp only[t.1,t.2.2.2.2.1,(S.A_at (i:=(e.2-1).toNat) (by lia)).1]at q;split at q
   .rename_i p;split at q
    .lia
    .rename_i u;exact⟨p,u⟩
   .lia
  rw[Go.Proofs.YtpcedcnjofbgjaaGreatDoor.movM,movR,F,B,ze rfl];refine⟨λ_ p u=>(S.move g V W T X U z y p (λm d=>(v m d).2) Y (n u)).1,?_⟩;split
  .exact S.stay g V
  split
  .exact S.stay g V
  rename_i p u;have l:movE s j (e.2-1).toNat (movO (dirB s j) b)=0:=by lia
  let⟨K,J,E⟩:=S.move g V W T X U z y p (λm d=>(v m d).2) Y (n l);rw[J];split
  .exact S.stay g V
  rename_i N;have o:vA (movB A i j e.1 b (movO (dirB s j) b) j).D (b,(((e.2-1).toNat))+1)=0:=by lia
  refine⟨_,S.fin g (by lia) (E o).1 (E o).2 (λr=>S.moved g r W T X U z y p (λm d=>(v m d).2) (n l) l o) ?_ (by simp) (DI.mov ..).dx⟩;have I:(movX s i j (e.2-1).toNat e.1 b (movO (dirB s j) b)).rows=(movT s i j e.1 b (movO (dirB s j) b)).rows:=by unfold movX movY;split<;>rfl
  rw[I];have w:(movT s i j e.1 b (movO (dirB s j) b)).rows=s.rows:=by
   cases movO (dirB s j) b with
   | none=>exact mr _ _ _ _
   | some m=>exact (Sw _ _ _).trans ((mr _ _ _ _).trans (mr _ _ _ _))
  rw[w];exact S.rows
 .refine⟨λh=>by lia,?_⟩;rw[Go.Proofs.YtpcedcnjofbgjaaGreatDoor.movM,zb (by lia)];exact S.stay g V
theorem SI.wrtM (h:SI s c A) (g:GI A λ_=>0) (j:c<=1000) (l:i<32) (p) {Dt:List Int} (m:qC Dt):∃A',SI (wrtM s i p Dt).2 (c+1) A'/\(GI A' λ_=>0)/\(RI A->RI A')/\(RI A->JK s (wrtM s i p Dt).2):=by
 unfold Go.Proofs.YtpcedcnjofbgjaaGreatDoor.wrtM;simp only;split
 .exact h.stay g j
 split
 .exact h.stay g j
 split
 .exact h.stay g j
 split
 .exact h.stay g j
 rename_i _ b e f;have a:(A i).k=1:=by rw[<-(h.A_at l).1];exact MC.1 b
 let⟨_,t,d⟩:=h.write g j l a (p:=p) (by lia) (by lia) m;exact⟨_,h.fin g (by lia) t d (λr=>r.like g.root (by rw[a];lia) (show (A i).k≠2 by rw[a];lia) rfl rfl) h.rows (by simp) (DI.wrt ..).dx⟩
theorem SI.byteE (e:SI s c A):Tj s:=λn d x a=>by
 unfold secE at a;cases b:getZ s.todo (n:Int) with
 | some D=>rw[b]at a;exact (e.tk _ (pU b)).2.2.2 x a
 | none=>rw[b]at a;exact nY e.bn n x a
theorem SI.doOk (O:SI s c A) (g:GI A λ_=>0) (P:c<=1000) (x) (Q:x.S.size<=600):DoOk s x:=by
 have D:=O.dirsOk g;have i:=pD D x.A;have v:=pD D x.B;have d:=(O.A_at i.1).1.symm.trans i.2;have q:=(O.A_at v.1).1.symm.trans v.2;have I:=tX x.C 3 (by lia) (by lia);have w:=tX x.C 512 (by lia) (by lia);have F:=tX x.C 20 (by lia) (by lia);have N:=tX x.B 3 (by lia) (by lia);have p:∀n,n<32->(s.nodes.getD n zN).k=(A n).k:=λn l=>(O.A_at l).1;have f:([]:List Int).length<=512/\qC []:=⟨yh _,λy K=>yi K oK⟩;refine⟨Q,λ_ _ n l=>(O.add g P i.1 d l (by lia) f (λ_=>rfl) _).1,λ_ _ n l=>(O.add g P i.1 d l (by lia) f (λ_=>rfl) _).1,λ_ b o E e=>?_,λ_ e z=>(O.unlM g P i.1 d _).1 e z,λX G=>?_,λ_ e a m=>(O.movM g P i.1 d v.1 q _ _ (pP _)).1 e a m,λ_ b o=>?_,λ_ b=>⟨?_,λe m _ r E=>?_⟩,λ_ M _ n l=>?_,λ_ b e=>?_,(gW O.rows).2,λ_ J=>?_,λ_=>O.syncOk P,λ_ e=>(O.snap P e).1,λ_ e=>(O.forget P (by lia)).1⟩
 .have a:=O.ino g x b;exact (O.write g P a.1 ((p _ a.1).symm.trans o) E e (iG _).2).1
 .obtain⟨j,L,rfl⟩:=(O.tv []).ti.mem (x:=tx0 s) G;rcases (O.tv []).ti.nd j L with h|h
  .rw[h];exact⟨Mr 0,by show (0:Int)<=32;lia⟩
  .by_cases o:((tx0 s).nodes.getD j zN).k=2
   .have:=h.2.2.2.1 o;lia
   .have:=h.2.2.2.2.1 o;lia
 .have a:=O.ino g x b;exact (O.cut g P a.1 ((p _ a.1).symm.trans o) (by lia)).1
 .have a:=O.ino g x b;have m:=(O.tv []).fld a.1 a.2;exact⟨m.1.2.2.2.2.2.2.2.2.1,m.1.2.2.2.2.2.2.2.2.2⟩
 .have a:=O.ino g x b;have t:=O.A_at a.1;exact (O.link g P v.1 q a.1 a.2 (by rwa[<-t.1]) (by rwa[<-t.2.2.2.2.2.1]) _).1
 .have a:=iG (tS x.S);exact (O.add g P i.1 d l (by lia) ⟨by lia,a.2⟩ (λh=>by lia) _).1
 .have a:=O.ino g x b;exact (O.own g P a.1 a.2 (by lia) (by lia)).1
 .let⟨a,_,t,_⟩:=O.quota P (u:=pk x.B 3) (lim:=pk x.C 20-1) (by lia) (by lia) J;exact⟨a,t⟩
theorem SI.doM (H:SI s c A) (g:GI A λ_=>0) (I:c<=1000) (x) (J:x.S.size<=600):∃A',SI (doM s x).2 (c+1) A'/\(GI A' λ_=>0)/\(RI A->RI A')/\(RI A->JK s (doM s x).2):=by
 have p:=H.dirsOk g;have f:=pD p x.A;have j:=pD p x.B;have b:=(H.A_at f.1).1.symm.trans f.2;have i:=(H.A_at j.1).1.symm.trans j.2;have z:=tX x.C 3 (by lia) (by lia);have n:=tX x.C 512 (by lia) (by lia);have v:=tX x.C 20 (by lia) (by lia);have G:=tX x.B 3 (by lia) (by lia);have e:([]:List Int).length<=512/\qC []:=⟨yh _,λy E=>yi E oK⟩;unfold Go.Proofs.YtpcedcnjofbgjaaGreatDoor.doM;simp only;split
 .exact H.addM g I f.1 b (by lia) e (λ_=>rfl) _ _
 .exact H.addM g I f.1 b (by lia) e (λ_=>rfl) _ _
 .split
  .exact H.stay g I
  rename_i a;have d:=H.ino g x a;exact H.wrtM g I d.1 _ (iG x.S).2
 .exact (H.unlM g I f.1 b _).2
 .exact (H.movM g I f.1 b j.1 i _ _ (pP _)).2
 .split
  .exact H.stay g I
  rename_i a;have d:=H.ino g x a;unfold cutM;simp only;split
  .exact H.stay g I
  split
  .exact H.stay g I
  split
  .exact H.stay g I
  rename_i _ F _;have l:(A (inoN s x-1).toNat).k=1:=by rw[<-(H.A_at d.1).1];exact MC.1 F
  let⟨_,t,o⟩:=H.cut g I d.1 l (sz:=(pk x.C 512).toNat) (by lia);exact⟨_,H.fin g (by lia) t o (λr=>r.like g.root (by rw[l];lia) (show (A (inoN s x-1).toNat).k≠2 by rw[l];lia) rfl rfl) H.rows (by simp) (DI.cut ..).dx⟩
 .split
  .exact H.stay g I
  rename_i a;have d:=H.ino g x a;exact H.lnkM g I j.1 i d.1 _
 .unfold symM;split
  .exact H.stay g I
  .have d:=iG (tS x.S);exact H.addM g I f.1 b (by lia) ⟨by lia,d.2⟩ (λh=>by lia) _ _
 .split
  .exact H.stay g I
  rename_i a;have d:=H.ino g x a;unfold ownM;simp only;split
  .exact H.stay g I
  let⟨_,t,o⟩:=H.own g I d.1 d.2 (u:=pk x.C 3) (gg:=0) (by lia) (by lia);exact⟨_,H.fin g (by lia) t o (λr=>r.same g.root λm=>by unfold upA;split<;>simp_all [kW]) H.rows (by simp) ((LA s).set _ _).dx⟩
 .unfold rO;split
  .exact H.stay g I
  rename_i D;let⟨_,w,_,t⟩:=H.quota I (u:=pk x.B 3) (lim:=pk x.C 20-1) (by lia) (by lia) (by simpa using D);exact⟨_,H.fin g (by lia) t g id w (by simp) (DI.dx ⟨rfl,λ_ _=>rfl,λ_ _ _=>rfl⟩)⟩
 .exact⟨A,H.sync (by lia),g,id,λ_ B h=>⟨B,h.sync H,λ_ _ _ _ _=>rfl⟩⟩
 .split
  .unfold ZJ;split
   .rename_i q;exact⟨_,H.fin g (by lia) (H.snap I q).2 g id H.rows (by simp) (VO q)⟩
   .exact H.stay g I
  .unfold je;split
   .exact⟨_,H.fin g (by lia) (H.forget I (k:=(1+pk x.C 3).toNat) (by lia)).2 g id H.rows (by simp) (Z9 s (by lia))⟩
   .exact H.stay g I
end
section
variable {s : Fs} {c n : Nat} {A : Nat->AN}
theorem CG (f) (g:i≠j) (h:0<f i) (l:0<f j):∀m,i<m->j<m->2<=((List.range m).map f).sum:=λm d c=>by have e:=iF f (λk=>if k=i then 0 else f k) i (λk a=>zb a) m d;have b:=iF (λk=>if k=i then 0 else f k) (λk=>if k=j then 0 else if k=i then 0 else f k) j (λk a=>zb a) m c;simp[Mt]at e b;rw[zb (yA g)]at b;lia
theorem GI.upOf (g:GI A λ_=>0) (r:RI A) (w:i<32) {e:En} (x:e∈kW (A i)) (z:(A (e.2-1).toNat).k=2):(A (e.2-1).toNat).up=i+1/\cntA A e.2=1/\e.2≠1:=by
 have o:=g.to w x;have c:=g.noRoot rfl w x;obtain⟨n,m⟩:∃n:Nat,(n:Int)+1=e.2:=⟨(e.2-1).toNat,by lia⟩;have v:(e.2-1).toNat=n:=by lia
 rw[v]at z |-;have a:n<32:=by lia
 have b:n≠0:=by lia
 have j:=g.cnt n a;rw[g.dir n a z,zb b,m]at j;let⟨p,t,f,q,d⟩:=r.up n a b z;refine⟨?_,by lia,c⟩;by_cases l:upN A n=i
 .rw[t,l]
 .exfalso;have h:∀{k} {y},y∈kW (A k)->y.2=e.2->0<(kW (A k)).countP (isTo e.2):=λs u=>List.countP_pos_iff.2 ⟨_,s,by rw[isTo,u];simp⟩;have:=CG (λk=>(kW (A k)).countP (isTo e.2)) l (h q (by rw[d,m])) (h x rfl) 32 p w;unfold cntA at j;lia
end
def dos (l:List DoI):List Value:=l.flatMap λx=>[.int .i64 x.K,.int .i64 x.A,.int .i64 x.B,.int .i64 x.C,.string x.S]
def mi (w:World) (v:Value) (l:List DoI):Prop:=uq w v 5 l.length (dos l)
theorem VP (l) (k) (hk):(dos l)[k*5]?=some (.int .i64 l[k].K)/\(dos l)[k*5+1]?=some (.int .i64 l[k].A)/\(dos l)[k*5+2]?=some (.int .i64 l[k].B)/\(dos l)[k*5+3]?=some (.int .i64 l[k].C)/\(dos l)[k*5+4]?=some (.string l[k].S):=by
 induction l generalizing k with
 | nil=>simp at hk
 | cons x l a=>
  cases k with
  | zero=>simp[dos]
  | succ k=>
   have:=a k (by simpa using hk);have e:∀j,(dos (x::l))[j+5]?=(dos l)[j]? :=λj=>rfl;rwa[show (k+1)*5=k*5+5 by lia,show k*5+5+1=k*5+1+5 by lia,show k*5+5+2=k*5+2+5 by lia,show k*5+5+3=k*5+3+5 by lia,show k*5+5+4=k*5+4+5 by lia,e,e,e,e,e]
theorem Py {l:List DoI} (h:mi w v l) (N) (q:N=l.length):∃p cp,v=.slice p N cp/\(0<N->∃g o,p=some ⟨g,o,none⟩/\g<w.heap.size/\∀k (hk),w.cell? ⟨g,o+k*5,none⟩=some (.int .i64 l[k].K)/\w.cell? ⟨g,o+(k*5+1),none⟩=some (.int .i64 l[k].A) /\
 w.cell? (g,o+(k*5+2))=some (.int .i64 l[k].B)/\w.cell? (g,o+(k*5+3))=some (.int .i64 l[k].C)/\w.cell? (g,o+(k*5+4))=some (.string l[k].S)):=by
 subst q;obtain⟨_,⟨c,d,e,rfl⟩|⟨g,o,b,rfl,a⟩⟩:=h
 .exact⟨d,e,by rw[c],λh=>by lia⟩
 .refine⟨_,b,rfl,λc=>⟨g,o,rfl,zy (a _ _ (VP l 0 c).1),λk hk=>?_⟩⟩;let⟨j,f,n,i,m⟩:=VP l k hk;exact⟨a _ _ j,a _ _ f,a _ _ n,a _ _ i,a _ _ m⟩
def gR (x:DoI):Bool:=decide (300<x.S.size)
def so (l:List DoI):Bool:=decide (l.length<=40)&&!(l.any gR)
theorem Rj {l:List DoI} (h:so l=true):l.length<=40/\∀x∈l,x.S.size<=300:=by unfold so at h;rw[yS,xe,um,pw]at h;refine⟨h.1,λx a=>?_⟩;have:=h.2 x a;unfold gR at this;simpa using this
theorem Gv (x) (w) (f:x.S.size<=maxLen):
 Calls prog 34 #[.agg #[(x.K:Int),(x.A:Int),(x.B:Int),(x.C:Int),.string x.S]] w (κ w (.bool (gR x))):=by
 let⟨c,A,B,C,S⟩:=x;simp only at f;by_cases d:300<S.size
 .have b:Hid (gR ⟨c,A,B,C,S⟩=true):=by show _=_;simp[gR,d]
  have a:300<(S.size:Int):=by lia
  go_enter func34,ntmps34
  go_wp2;go_ret;rw[b.o];exact⟨by simp,zB.alloc zL _⟩
 .have b:Hid (gR ⟨c,A,B,C,S⟩=false):=by show _=_;simp[gR,d]
  have a:¬300<(S.size:Int):=by lia
  go_enter func34,ntmps34
  go_wp2;go_ret;rw[b.o];exact⟨by simp,zB.alloc zL _⟩
theorem Xg (v) (l) (w) (h:mi w v l) (hl:l.length<=1000000) (hs:∀x,x∈l->x.S.size<=maxLen):
 Calls prog 85 #[v,.func (.func 34) #[] #[]] w (λe w'=>∃r,e=.returned (r:Int)/\(0<=r↔l.any gR=true)/\Below w w w'):=by
 obtain⟨N,n⟩:=zA l.length;obtain⟨p,cp,V,F⟩:=Py h N n.o;rw[<-n.o]at hl;subst V;have Y:=za F;have U:=za hs;clear F hs h;go_enter func85,ntmps85;go_wp2;go_loopw [8] (λi wr=>∃k:Nat,k<=N/\i=.int .i64 k/\Hid ((l.take k).any gR=false)/\Below w w wr) (λi _=>N-(intOf i).toNat)
 .exact⟨0,yh _,rfl,rfl,zB⟩
 .obtain⟨k,hk,rfl,G,b⟩:=hrel;by_cases q:k<N
  .obtain⟨g,o,rfl,f,I⟩:=Y.o (by omega);have a:k<l.length:=(by rw[<-n.o];exact q);obtain⟨s,D,t,z,y⟩:=I k a;obtain⟨x,m⟩:=zD (l[k]);rw[m.o]at s D t z y;have c1:=(b.cell (p:=⟨g,o+k*5,none⟩) f).trans s;have O:=(b.cell (p:=⟨g,o+(k*5+1),none⟩) f).trans D;have Q:=(b.cell (p:=⟨g,o+(k*5+2),none⟩) f).trans t;have X:=(b.cell (p:=⟨g,o+(k*5+3),none⟩) f).trans z;have R:=(b.cell (p:=⟨g,o+(k*5+4),none⟩) f).trans y;rw[<-yp]at O Q X R;have u:Hid (x.S.size<=maxLen):=(by rw[<-m.o];exact U.o _ (Nj a));have Z:Hid ((l.take (k+1)).any gR=gR x):=(by rw[<-zU a,List.any_append,G.o,m.o];show _=_;simp);have M:Hid (gR x=true->l.any gR=true):=λJ=>(by rw[xO];exact⟨l[k],Nj a,by rw[m.o];exact J⟩);have T:=za (λW=>Gv x W u.o);obtain⟨L,A,B,C,S⟩:=x;clear I s D t z y;have H:k<(N:Int):=(by omega);go_wp2_with fail
   refine (T.o _).mono ?_;generalize j:gR ⟨L,A,B,C,S⟩=P;have c:=za j;clear j;rintro e w1 ⟨rfl,E⟩;have d:=zi b E;cases P with
   | true=>
    go_wp2;go_ret;exact⟨k,rfl,⟨λ_=>M.o c.o,λ_=>by omega⟩,d⟩
   | false=>
    go_wp2;go_roundw
    .exact⟨k+1,by omega,by go_num,Z.o.trans c.o,d⟩
    .simp[intOf];omega
  .have K:Hid (l.any gR=false):=(by have:=G.o;rw[zo (by rw[<-n.o];omega)]at this;exact this);go_wp2;go_ret;exact⟨-1,rfl,⟨λh=>by omega,λh=>by rw[K.o]at h;cases h⟩,b⟩
theorem pG (v) (l) (w) (h:mi w v l) (g:l.length<=1000000) (f:∀x,x∈l->x.S.size<=maxLen):
 Calls prog 33 #[v,.func (.func 34) #[] #[]] w (κ w (.bool (l.any gR))):=by
 go_enter func33,ntmps33;go_wp2_with fail
 refine (za (Xg _ l _ h g f)).o.mono ?_;rintro e d ⟨r,rfl,a,b⟩;have c:=za a;clear a;go_wp2;go_ret;refine⟨?_,b⟩;have:l.any gR=decide (0<=r):=by rw[nJ];simp[c.o]
 rw[this];rfl
theorem Ri (v) (l) (w) (h:mi w v l) (r:l.length<=maxLen) (s:∀x,x∈l->x.S.size<=maxLen):
 Calls prog 8 #[v] w (κ w (.bool (so l))):=by
 let⟨N,c⟩:=zA l.length;let⟨p,q,j,i⟩:=Py h N c;rw[<-c.o]at r;subst j;by_cases a:N<=40
 .have d:Hid (so l = !(l.any gR)):=by show _=_;rw[so,<-c.o];simp[a]
  have b:(N:Int)<=40:=by lia
  go_enter func8,ntmps8
  go_wp2_with fail
  refine (pG _ l _ (za h).o (by rw[<-c.o];lia) (za s).o).mono ?_;generalize f:l.any gR=m at d |-;rintro e n ⟨rfl,g⟩;go_wp2;go_ret;rw[d.o];exact⟨rfl,g⟩
 .have d:Hid (so l=false):=by show _=_;rw[so,<-c.o];simp[a]
  have b:¬(N:Int)<=40:=by lia
  go_enter func8,ntmps8
  go_wp2;go_ret;rw[d.o];exact⟨rfl,zB⟩
theorem IX (S):(strI S).length=S.size:=by rw[strI,yD,ye];rfl
theorem do_any (h:FsAt w gf s F a) (hd:RQ s) (x) (hl:0<(RA s).length/\(RA s).length<=64) (ab:DlOk s (RA s)) (ae:DoOk s x):
 Calls prog 10 #[(gf,()),.agg #[(x.K:Int),(x.A:Int),(x.B:Int),(x.C:Int),.string x.S]] w (ρ (.int .i64 (doM s x).1) λw'=>pW w gf (doM s x).2 F a w'):=by
 have H:=za h;have HD:=za hd;obtain⟨Y,A,B,C,S⟩:=x;have v:=za ae;clear ae;obtain⟨R,HR⟩:=zD (doM s ⟨Y,A,B,C,S⟩);rw[HR.o];obtain⟨re,rs⟩:=R;have bp:Hid (Below w w (w.alloc (.cells #[Y,A,B,C,.string S] 30))):=zB.alloc zL _;have br:Hid ((w.alloc (.cells #[Y,A,B,C,.string S] 30)).heap[w.heap.size]?=some (.cells #[Y,A,B,C,.string S] 30)):=zH;have aQ:=za (WM (h.below bp.o) hd);obtain⟨L,HL⟩:=zD ((RA s).length);have bM:0<L:=by rw[<-HL.o];exact hl.1
 have ch:L<=64:=by rw[<-HL.o];exact hl.2
 obtain⟨ax,aG⟩:=zD (RA s);have bn:=za ab;rw[aG.o]at aQ HL bn;rw[HL.o]at aQ;have b0:((L:Int)==0)=false:=by simp;omega
 have bi:=tX A L (by omega) (by omega);have bd:=tX B L (by omega) (by omega);obtain⟨ia,aO⟩:∃n:Nat,pk A L=(n:Int):=⟨(pk A L).toNat,by omega⟩;obtain⟨ib,aT⟩:∃n:Nat,pk B L=(n:Int):=⟨(pk B L).toNat,by omega⟩;have b8:=za (λW=>tW A L W (by omega) (by omega));have bt:=za (λW=>tW B L W (by omega) (by omega));rw[aO]at b8 bi;rw[aT]at bt bd;have bq:ia<L:=by omega
 have bc:ib<L:=by omega
 clear h hd hl ab;go_enter func10,ntmps10;go_wp2_with fail
 refine aQ.o.mono ?_;rintro e w2 ⟨v2,rfl,aR,aB⟩;obtain⟨g2,c2,bT,cB,_⟩:=aR.form bM;subst bT;have bQ:=za (zi bp.o aB);have aa:=za (xV aB br.o);have aW:∀r,r<L->∃n:Nat,n<32/\ax.getD r 0=n+1/\(s.nodes.getD n zN).k=2/\w2.cell? ⟨g2,r,none⟩=some (.int .i64 (n+1)):=λr Z=>by
  have aL:r<ax.length:=by rw[HL.o];exact Z
  obtain⟨n1,n2,n3⟩:=bn.o _ (Nj aL);have bL:ax.getD r 0=ax[r]:=by rw[zt,zk aL];rfl
  refine⟨(ax[r]-1).toNat,by omega,by rw[bL];omega,n3,?_⟩;have:=aR.cells (g:=g2) rfl r (.int .i64 ax[r]) (by unfold ints;rw[xE,zk aL];rfl);have aH:(⟨g2,0,none⟩:Addr).add r=⟨g2,r,none⟩:=by unfold Addr.add;split<;>simp_all
  rw[aH]at this;rw[this]
  congr 2
  omega
 obtain⟨i,b2,b3,b6,bk⟩:=aW ia bq;obtain⟨j,bb,bf,bj,bm⟩:=aW ib bc;have be:=HD.o.1 i b2 b6;have bz:=HD.o.1 j bb bj;have ap:=za be;have b1:=za bz;have I:Hid (atN s A=i/\atN s B=j):=by unfold atN;rw[aG.o,HL.o,aO,aT,yQ,yQ,b3,bf];constructor<;>omega
 have bZ:=za aB;have r0:w2.cell? (w.heap.size,0)=some (.int .i64 Y):=by rw[zC aa.o];rfl
 have r1:w2.cell? (w.heap.size,1)=some (.int .i64 A):=by rw[zC aa.o];rfl
 have r2:w2.cell? (w.heap.size,2)=some (.int .i64 B):=by rw[zC aa.o];rfl
 have k1:=xX r1;have k2:=xX r2;have k3:=xX bk;have k4:=xX bm;have bS:ia<(L:Int):=by omega
 have bW:ib<(L:Int):=by omega
 clear aR aB aW be bz b6 bj b3 bf aO aT bi bd;go_wp2_with fail
 refine vg (by kernel_rfl) (by kernel_rfl) ?_
 repeat (first
  | go_big_quiet_skip
  | (refine sG 18 #[.tmp 18,.tmp 20] #[3,3] rfl rfl (λ_ _=>by kernel_rfl) #[A,L] (by kernel_rfl) (.int .i64 (ia:Int)) (λ_ _=>vY) (λw' _=>(b8.o w').mono λe w2 ⟨he,am⟩=>⟨he,am▸zB⟩) ?_;simp only[Act.put,zP,yf,yb])
  | (refine sG 18 #[.tmp 26,.tmp 28] #[3,3] rfl rfl (λ_ _=>by kernel_rfl) #[B,L] (by kernel_rfl) (.int .i64 (ib:Int)) (λ_ _=>vY) (λw' _=>(bt.o w').mono λe w2 ⟨he,am⟩=>⟨he,am▸zB⟩) ?_;simp only[Act.put,zP,yf,yb])
  | (go_big_quiet_want;go_big_quiet_op;go_big_quiet_on))
 refine vn ?_;intro w3 aS;have bs:=za (zi bQ.o (us aS));have ao:=za (xV (us aS) aa.o);clear r0 r1 r2 k1 k2 k3 k4 aS bk bm;have J:Hid (∀W,Below w3 w3 W->W.cell? (w.heap.size,0)=some (.int .i64 Y)/\W.cell? (w.heap.size,1)=some (.int .i64 A)/\W.cell? (w.heap.size,2)=some (.int .i64 B)/\W.cell? (w.heap.size,3)=some (.int .i64 C)/\W.cell? (w.heap.size,4)=some (.string S)):=λW hW=>by have p:=xV hW ao.o;refine⟨?_,?_,?_,?_,?_⟩<;>(rw[zC p];rfl)
 have u:Hid (∀(y) (W),Calls prog 22 #[(y:Int)] W (κ W (.string (nmOf y)))):=λy W=>jZ y W;have a4:Hid (∀W,Below w w W->Calls prog 21 #[(gf,()),(i+1:Int),.string (nmOf B)] W (κ W (.tuple #[.int .i64 (rI (dirB s i) (nmOf B)).1,.int .i64 (rI (dirB s i) (nmOf B)).2.2]))):=λW hW=>SK (H.o.below hW) i _ _ ap.o (nmOf B) (pP B);have bo:Hid ((rI (dirB s i) (nmOf B)).2.2=0\/(rI (dirB s i) (nmOf B)).2.2=4/\(rI (dirB s i) (nmOf B)).1=0):=P1 (D:=dirB s i) (n:=(dirB s i).length / 16) (name:=nmOf B) 7 0 0;have aF:Hid ((rI (dirB s i) (nmOf B)).2.2=0->1<=(rI (dirB s i) (nmOf B)).1/\(rI (dirB s i) (nmOf B)).1<=32):=SL ap.o.ok;have f:Hid (inoN s ⟨Y,A,B,C,S⟩=(rI (dirB s i) (nmOf B)).1):=by show _=_;unfold inoN;rw[I.o.1]
 obtain⟨⟨ri,rl,rr⟩,Hr⟩:∃r,Hid (rI (dirB s i) (nmOf B)=r):=⟨_,za rfl⟩;rw[Hr.o]at a4 bo aF f;obtain⟨c0,c1,c2,c3,c4⟩:=J.o w3 zB;go_wp2_with fail
 refine (u.o B w3).mono ?_;rintro e w4 ⟨rfl,bA⟩;have bx:=za bA;clear bA;go_wp2_with fail
 refine (a4.o w4 (zi bs.o bx.o)).mono ?_;rintro e V ⟨rfl,b5⟩;have ag:=za (zi bx.o b5);have t:=za (zi bs.o ag.o);clear b5 c0 c1 c2 c3 c4;have bh:ri=0\/∃n:Nat,n<32/\ri=n+1:=by
  rcases bo.o with p|p
  .have h2:=aF.o p;have h3:=h2.1;have h4:=h2.2;exact zw ⟨(ri-1).toNat,by omega,by omega⟩
  .exact zu p.2
 have aD:=za bh;clear bh;have b7:=tX Y 12 (by omega) (by omega);obtain⟨kx,aN⟩:∃n:Nat,pk Y 12=(n:Int):=⟨(pk Y 12).toNat,by omega⟩;have bl:=za (tW Y 12 V (by omega) (by omega));rw[aN]at bl b7;have b4:kx<12:=by omega
 have d:=za aN;clear aN b7;obtain⟨c0,c1,c2,c3,c4⟩:=J.o V ag.o;go_wp2_with fail
 refine bl.o.mono ?_;rintro e w6 ⟨rfl,rfl⟩;have bN:kx=0\/kx=1\/kx=2\/kx=3\/kx=4\/kx=5\/kx=6\/kx=7\/kx=8\/kx=9\/kx=10\/kx=11:=by omega
 clear b4;rcases bN with rfl|rfl|rfl|rfl|rfl|rfl|rfl|rfl|rfl|rfl|rfl|rfl
 .obtain⟨M,Q⟩:=zD (addM s i (dirB s i) (nmOf B) 1 420 (pk C 3) 0 []);obtain⟨⟨ra,rb⟩,X⟩:=M;have hm:(rb,X)=(re,rs):=by rw[<-HR.o];unfold doM;rw[d.o];show _=((addM s (atN s A) (dirB s (atN s A)) (nmOf B) 1 420 (pk C 3) 0 []).1.2,(addM s (atN s A) (dirB s (atN s A)) (nmOf B) 1 420 (pk C 3) 0 []).2);rw[I.o.1,Q.o]
  injection hm with m1 m2;subst m1 m2;have G:=tX C 3 (by omega) (by omega);have z:=za (λW=>tW C 3 W (by omega) (by omega));have c:Hid (∀W,Below w w W->Calls prog 28 #[(gf,()),(i+1:Int),.string (nmOf B),(1:Int),(420:Int),(pk C 3:Int),()] W (ρ (.tuple #[ra,rb]) λw'=>pW w gf X F a w')):=λW hW=>by have b:=Tp (H.o.below hW) i _ _ ap.o (nmOf B) (pP B) 1 420 (pk C 3) 0 (zu rfl) (by omega) (by omega) (by omega) (by have p:=v.o.c0 d.o;rw[show atN s (DoI.mk Y A B C S).A=i from I.o.1]at p;exact p);rw[Q.o]at b;exact b.mono λe w' ⟨p,h2⟩=>⟨p,h2.after hW⟩
  clear G;go_wp2_with fail
  go_region_with (first
   | (go_at_call 22;refine (u.o B _).mono ?_;rintro e wn ⟨rfl,aj⟩;have O:=zi (NL (xW V V) 1) aj;have av:=za (zi t.o O);obtain⟨d0,d1,d2,d3,d4⟩:=J.o wn (zi ag.o O);clear aj O)
   | (go_at_call 18;refine (z.o _).mono ?_;rintro e wp ⟨rfl,ad⟩;subst ad)
   | (go_at_call 28;refine (c.o _ av.o).mono ?_;rintro e w8 ⟨rfl,m⟩;have E:=za m;clear m))
  all_goals
   go_wp2;go_ret;exact⟨rfl,E.o⟩
 .obtain⟨M,Q⟩:=zD (addM s i (dirB s i) (nmOf B) 2 493 (pk C 3) 0 []);obtain⟨⟨ra,rb⟩,X⟩:=M;have hm:(rb,X)=(re,rs):=by rw[<-HR.o];unfold doM;rw[d.o];show _=((addM s (atN s A) (dirB s (atN s A)) (nmOf B) 2 493 (pk C 3) 0 []).1.2,(addM s (atN s A) (dirB s (atN s A)) (nmOf B) 2 493 (pk C 3) 0 []).2);rw[I.o.1,Q.o]
  injection hm with m1 m2;subst m1 m2;have G:=tX C 3 (by omega) (by omega);have z:=za (λW=>tW C 3 W (by omega) (by omega));have c:Hid (∀W,Below w w W->Calls prog 28 #[(gf,()),(i+1:Int),.string (nmOf B),(2:Int),(493:Int),(pk C 3:Int),()] W (ρ (.tuple #[ra,rb]) λw'=>pW w gf X F a w')):=λW hW=>by have b:=Tp (H.o.below hW) i _ _ ap.o (nmOf B) (pP B) 2 493 (pk C 3) 0 (zw rfl) (by omega) (by omega) (by omega) (by have p:=v.o.c1 d.o;rw[show atN s (DoI.mk Y A B C S).A=i from I.o.1]at p;exact p);rw[Q.o]at b;exact b.mono λe w' ⟨p,h2⟩=>⟨p,h2.after hW⟩
  clear G;go_wp2_with fail
  go_region_with (first
   | (go_at_call 22;refine (u.o B _).mono ?_;rintro e wn ⟨rfl,aj⟩;have O:=zi (NL (xW V V) 1) aj;have av:=za (zi t.o O);obtain⟨d0,d1,d2,d3,d4⟩:=J.o wn (zi ag.o O);clear aj O)
   | (go_at_call 18;refine (z.o _).mono ?_;rintro e wp ⟨rfl,ad⟩;subst ad)
   | (go_at_call 28;refine (c.o _ av.o).mono ?_;rintro e w8 ⟨rfl,m⟩;have E:=za m;clear m))
  all_goals
   go_wp2;go_ret;exact⟨rfl,E.o⟩
 .have G:=tX C 512 (by omega) (by omega);have z:=za (λW=>tW C 512 W (by omega) (by omega));obtain⟨sz,an⟩:∃n:Nat,pk C 512=(n:Int):=⟨(pk C 512).toNat,by omega⟩;rw[an]at z G;have bP:S.size<=600:=v.o.len;have cs:=IX S;have ct:=Lg (P:=prog) V.drew 9 38 5 S underlying9 underlying38 underlying5;have a5:=zi (NL (xW V V) 1) (MP V.drew S);have aP:=Kv V.drew S;have aV:=za (zi t.o a5);obtain⟨_,_,_,m3,m4⟩:=J.o (Lib.bytesWorld V.drew 5 S) (zi ag.o a5);have U:Hid (¬F w.heap.size/\w.heap.size<(Lib.bytesWorld V.drew 5 S).heap.size):=⟨λhc=>Nat.lt_irrefl _ (H.o.fin _ hc),zr (zr (xB ao.o) ag.o.size) a5.size⟩;rcases aD.o with Z|⟨n,T,Z⟩
  .subst Z;have hm:(4,s)=(re,rs):=by
    rw[<-HR.o];unfold doM;rw[d.o];show _=if inoN s _=0 then _ else _
    rw[f.o,ze rfl]
   injection hm with m1 m2;subst m1 m2;have c:=za (KQ (gf:=gf) (Lib.bytesWorld V.drew 5 S) sz (V.drew.heap.size,0,S.size,(grownCap V.drew S.size 0 5)));clear aP a5 G;go_wp2_with fail
   refine te ?_
   go_region_held_law (λw'=>w'.cell? (w.heap.size,3)=some (.int .i64 C)/\w'.cell? (w.heap.size,4)=some (.string S))
    (first
     | exact⟨c3,c4⟩
     | exact⟨m3,m4⟩
     | exact⟨n3,n4⟩
     | (go_keep;done))
    (first
    | (go_at_call 18;refine (z.o _).mono ?_;rintro e wp ⟨rfl,ad⟩;subst ad)
    | (go_at_call 29;refine c.o.mono ?_;rintro e w8 ⟨rfl,rfl⟩;have E:=za (pW.same H.o aV.o)))
   all_goals
    refine sL ?_;go_wp2;go_ret;exact⟨rfl,E.o⟩
  subst Z;have l:¬(n:Int)+1=0:=by omega
  have en:((n:Int)+1-1).toNat=n:=by omega
  obtain⟨M,Q⟩:=zD (wrtM s n sz (strI S));obtain⟨⟨ra,rb⟩,X⟩:=M;have hm:(rb,X)=(re,rs):=by
   rw[<-HR.o];unfold doM;rw[d.o];show _=if inoN s _=0 then _ else _
   rw[f.o,zb l,en];show _=((wrtM s n (pk C 512).toNat (strI S)).1.2,(wrtM s n (pk C 512).toNat (strI S)).2);rw[an,yQ,Q.o]
  injection hm with m1 m2;subst m1 m2;have b:=KV (H.o.below aV.o) n T sz (by omega) (V.drew.heap.size,0,S.size,(grownCap V.drew S.size 0 5)) (strI S) aP (by omega) (by have p:=v.o.c2 d.o (by rw[f.o];exact l);rw[f.o,en]at p;rw[show (pk (DoI.mk Y A B C S).C 512).toNat=sz by show (pk C 512).toNat=sz;rw[an];exact yQ _]at p;exact p);rw[Q.o]at b;have c:=za b;clear b aP a5 G;go_wp2_with fail
  refine te ?_
  go_region_held_law (λw'=>w'.cell? (w.heap.size,3)=some (.int .i64 C)/\w'.cell? (w.heap.size,4)=some (.string S))
   (first
    | exact⟨c3,c4⟩
    | exact⟨m3,m4⟩
    | exact⟨n3,n4⟩
    | (go_keep;done))
   (first
   | (go_at_call 18;refine (z.o _).mono ?_;rintro e wp ⟨rfl,ad⟩;subst ad)
   | (
    go_at_call 29;refine c.o.mono ?_;rintro e w8 ⟨rfl,m⟩
    have k8:=m.choose_spec.2.2;have n3:=(k8.cell (i:=3) U.o.2 U.o.1).trans m3;have n4:=(k8.cell (i:=4) U.o.2 U.o.1).trans m4;have E:=za (m.after aV.o);clear m k8))
  all_goals
   refine sL ?_;go_wp2;go_ret;exact⟨rfl,E.o⟩
 .have Q:Hid (unlM s i (dirB s i) (nmOf B)=(re,rs)):=by show _=_;rw[<-HR.o];unfold doM;rw[d.o];show _=unlM s (atN s A) (dirB s (atN s A)) (nmOf B);rw[I.o.1]
  go_wp2_with fail
  refine (u.o B _).mono ?_;rintro e w7 ⟨rfl,ai⟩;have N:=za (zi t.o ai);have b:=Xq (H.o.below N.o) i _ _ ap.o (nmOf B) (pP B) (by have p:=v.o.c3 d.o;rw[show atN s (DoI.mk Y A B C S).A=i from I.o.1]at p;exact p);rw[Q.o]at b;have c:=za b;clear ai b c0 c1 c2 c3 c4;go_wp2_with fail
  refine c.o.mono ?_;rintro e w8 ⟨rfl,m⟩;have E:=za (m.after N.o);clear m;go_wp2;go_ret;exact⟨rfl,E.o⟩
 .have Q:Hid (movM s i j (dirB s i) (dirB s j) (nmOf C) (nmOf B)=(re,rs)):=by show _=_;rw[<-HR.o];unfold doM;rw[d.o];show _=movM s (atN s A) (atN s B) (dirB s (atN s A)) (dirB s (atN s B)) (nmOf C) (nmOf B);rw[I.o.1,I.o.2]
  have kB:=xX c2;have kC:=xX c3;have kS:=xX c4;go_wp2_with fail
  refine fF 9 (by kernel_rfl) (by kernel_rfl) ?_;simp only[vu,xH,vv,vy]
  repeat (first
   | go_big_quiet_skip
   | (refine sG 22 #[.tmp 114] #[3] rfl rfl (λ_ _=>by kernel_rfl) #[C] (by kernel_rfl) (.string (nmOf C)) (λ_ _=>vY) (λw' _=>u.o C w') ?_;simp only[Act.put,zP,yf,yb])
   | (refine sG 22 #[.tmp 118] #[3] rfl rfl (λ_ _=>by kernel_rfl) #[B] (by kernel_rfl) (.string (nmOf B)) (λ_ _=>vY) (λw' _=>u.o B w') ?_;simp only[Act.put,zP,yf,yb])
   | (go_big_quiet_want;go_big_quiet_op;go_big_quiet_on))
  refine vn ?_;intro w7 a9;have N:=za (zi t.o (us a9));clear a9 c0 c1 c2 c3 c4 kB kC kS;have b:=me (H.o.below N.o) i _ _ ap.o j _ _ b1.o (nmOf C) (nmOf B) (pP C) (pP B) v.o.up (by have p:=v.o.c4 d.o;rw[show atN s (DoI.mk Y A B C S).A=i from I.o.1,show atN s (DoI.mk Y A B C S).B=j from I.o.2]at p;exact p);rw[Q.o]at b;have c:=za b;clear b;go_wp2_with fail
  refine c.o.mono ?_;rintro e w8 ⟨rfl,m⟩;have E:=za (m.after N.o);clear m;go_wp2;go_ret;exact⟨rfl,E.o⟩
 .have G:=tX C 512 (by omega) (by omega);have z:=za (λW=>tW C 512 W (by omega) (by omega));obtain⟨sz,an⟩:∃n:Nat,pk C 512=(n:Int):=⟨(pk C 512).toNat,by omega⟩;rw[an]at z G;rcases aD.o with Z|⟨n,T,Z⟩
  .subst Z;have hm:(4,s)=(re,rs):=by
    rw[<-HR.o];unfold doM;rw[d.o];show _=if inoN s _=0 then _ else _
    rw[f.o,ze rfl]
   injection hm with m1 m2;subst m1 m2;go_wp2_with fail
   refine (z.o _).mono ?_;rintro e w7 ⟨rfl,rfl⟩;have c:=za (J3 (gf:=gf) V sz);go_wp2_with fail
   refine c.o.mono ?_;rintro e w8 ⟨rfl,m⟩;have E:=za (m▸pW.same H.o t.o);clear m;go_wp2;go_ret;exact⟨rfl,E.o⟩
  subst Z;have l:¬(n:Int)+1=0:=by omega
  have en:((n:Int)+1-1).toNat=n:=by omega
  have Q:Hid (cutM s n sz=(re,rs)):=by
   show _=_;rw[<-HR.o];unfold doM;rw[d.o];show _=if inoN s _=0 then _ else _
   rw[f.o,zb l,en];show cutM s n sz=cutM s n (pk C 512).toNat;rw[an,yQ]
  go_wp2_with fail
  refine (z.o _).mono ?_;rintro e w7 ⟨rfl,rfl⟩;have b:=J2 (H.o.below t.o) n T sz (by omega) (by have p:=v.o.c5 d.o (by rw[f.o];exact l);rw[f.o,en]at p;rw[show (pk (DoI.mk Y A B C S).C 512).toNat=sz by show (pk C 512).toNat=sz;rw[an];exact yQ _]at p;exact p);rw[Q.o]at b;have c:=za b;clear b;go_wp2_with fail
  refine c.o.mono ?_;rintro e w8 ⟨rfl,m⟩;have E:=za (m.after t.o);clear m;go_wp2;go_ret;exact⟨rfl,E.o⟩
 .have bu:=pP C;rcases aD.o with Z|⟨n,T,Z⟩
  .subst Z;have hm:(4,s)=(re,rs):=by
    rw[<-HR.o];unfold doM;rw[d.o];show _=if inoN s _=0 then _ else _
    rw[f.o,ze rfl]
   injection hm with m1 m2;subst m1 m2;go_wp2_with fail
   refine (u.o C _).mono ?_;rintro e w7 ⟨rfl,ai⟩;have N:=za (zi t.o ai);clear ai c0 c1 c2 c3 c4;have c:=za (GW (gf:=gf) w7 ((j:Int)+1) (nmOf C) bu);go_wp2_with fail
   refine c.o.mono ?_;rintro e w8 ⟨rfl,m⟩;have E:=za (m▸pW.same H.o N.o);clear m;go_wp2;go_ret;exact⟨rfl,E.o⟩
  subst Z;have l:¬(n:Int)+1=0:=by omega
  have en:((n:Int)+1-1).toNat=n:=by omega
  have Q:Hid (lnkM s j n (dirB s j) (nmOf C)=(re,rs)):=by
   show _=_;rw[<-HR.o];unfold doM;rw[d.o];show _=if inoN s _=0 then _ else _
   rw[f.o,zb l,en];show lnkM s j n (dirB s j) (nmOf C)=lnkM s (atN s B) n (dirB s (atN s B)) (nmOf C);rw[I.o.2]
  go_wp2_with fail
  refine (u.o C _).mono ?_;rintro e w7 ⟨rfl,ai⟩;have N:=za (zi t.o ai);clear ai c0 c1 c2 c3 c4;have b:=GV (H.o.below N.o) j _ _ b1.o (nmOf C) bu n T (by have p:=(v.o.c6 d.o (by rw[f.o];exact l)).1;rw[f.o,en]at p;exact p) (by have p:=(v.o.c6 d.o (by rw[f.o];exact l)).2;rw[f.o,en,show atN s (DoI.mk Y A B C S).B=j from I.o.2]at p;exact p);rw[Q.o]at b;have c:=za b;clear b;go_wp2_with fail
  refine c.o.mono ?_;rintro e w8 ⟨rfl,m⟩;have E:=za (m.after N.o);clear m;go_wp2;go_ret;exact⟨rfl,E.o⟩
 .have G:=tX C 3 (by omega) (by omega);have z:=za (λW=>tW C 3 W (by omega) (by omega));have bP:S.size<=600:=v.o.len;have bv:((tS S).toList==[])=false:=by rw[yU];intro hc;have p:tS S=ByteArray.empty:=WS (hc.trans (by kernel_rfl));have h2:=zQ ByteArray.size p;unfold tS at h2;rw[Mn]at h2;have h3:(⟨#[116]⟩:ByteArray).size=1:=rfl;have h4:ByteArray.empty.size=0:=rfl;omega
  obtain⟨M,Q⟩:=zD (symM s i (dirB s i) (nmOf B) (tS S) (pk C 3) 0);obtain⟨⟨ra,rb⟩,X⟩:=M;have hm:(rb,X)=(re,rs):=by rw[<-HR.o];unfold doM;rw[d.o];show _=((symM s (atN s A) (dirB s (atN s A)) (nmOf B) (tS S) (pk C 3) 0).1.2,(symM s (atN s A) (dirB s (atN s A)) (nmOf B) (tS S) (pk C 3) 0).2);rw[I.o.1,Q.o]
  injection hm with m1 m2;subst m1 m2;have c:Hid (∀W,Below w w W->Calls prog 40 #[(gf,()),(i+1:Int),.string (nmOf B),.string (tS S),(pk C 3:Int),()] W (ρ (.tuple #[ra,rb]) λw'=>pW W gf X F a w')):=λW hW=>by have b:=JZ (H.o.below hW) i _ _ ap.o (nmOf B) (pP B) (tS S) bv (pk C 3) 0 (by omega) (by omega) (by have p:=v.o.c7 d.o;rw[show atN s (DoI.mk Y A B C S).A=i from I.o.1]at p;exact p);rw[Q.o]at b;exact b
  have U:Hid (¬F w.heap.size/\w.heap.size<V.heap.size):=⟨λhc=>Nat.lt_irrefl _ (H.o.fin _ hc),zr (xB ao.o) ag.o.size⟩;have aH:∀W,(Op.stringOp .add ⟨#[116]⟩ S).run prog W=.ok (.string (tS S)) W:=λW=>run_string_add_sum W _ _ (by show 1+S.size<=_;omega);have cy:¬1+S.size > 9223372036854775807:=by omega
  have cp:¬9223372036854775807<1+S.size:=by omega
  have cm:¬9223372036854775807<1+(S.size:Int):=by omega
  have cx:S.size+1<=9223372036854775807:=by omega
  clear G bv;go_wp2_with fail
  refine te ?_
  go_region_held_law (λw'=>w'.cell? (w.heap.size,2)=some (.int .i64 B)/\w'.cell? (w.heap.size,3)=some (.int .i64 C)/\w'.cell? (w.heap.size,4)=some (.string S))
   (first
    | exact⟨c2,c3,c4⟩
    | exact⟨d2,d3,d4⟩
    | exact⟨n2,n3,n4⟩
    | (go_keep;done))
   (first
    | (go_at_call 22;refine (u.o B _).mono ?_;rintro e wn ⟨rfl,aj⟩;have O:=zi (NL (xW V V) 1) aj;have av:=za (zi t.o O);obtain⟨d0,d1,d2,d3,d4⟩:=J.o wn (zi ag.o O);have aM:=za O.size;clear aj O)
    | (go_at_call 18;refine (z.o _).mono ?_;rintro e wp ⟨rfl,ad⟩;subst ad)
    | (
     go_at_call 40;refine (c.o wn av.o).mono ?_;rintro e w8 ⟨rfl,m⟩
     have k8:=m.choose_spec.2.2;have n2:=(k8.cell (i:=2) (zr U.o.2 aM.o) U.o.1).trans d2;have n3:=(k8.cell (i:=3) (zr U.o.2 aM.o) U.o.1).trans d3;have n4:=(k8.cell (i:=4) (zr U.o.2 aM.o) U.o.1).trans d4;have E:=za (m.after av.o);clear m k8))
  all_goals
   refine sL ?_;go_wp2;go_ret;exact⟨rfl,E.o⟩
 .have G:=tX C 3 (by omega) (by omega);have z:=za (λW=>tW C 3 W (by omega) (by omega));rcases aD.o with Z|⟨n,T,Z⟩
  .subst Z;have hm:(4,s)=(re,rs):=by
    rw[<-HR.o];unfold doM;rw[d.o];show _=if inoN s _=0 then _ else _
    rw[f.o,ze rfl]
   injection hm with m1 m2;subst m1 m2;go_wp2_with fail
   refine (z.o _).mono ?_;rintro e w7 ⟨rfl,rfl⟩;have c:=za (UW (gf:=gf) V (pk C 3) 0 (by omega) (by omega));go_wp2_with fail
   refine c.o.mono ?_;rintro e w8 ⟨rfl,m⟩;have E:=za (pW.same H.o (zi t.o m));clear m;go_wp2;go_ret;exact⟨rfl,E.o⟩
  subst Z;have l:¬(n:Int)+1=0:=by omega
  have en:((n:Int)+1-1).toNat=n:=by omega
  have Q:Hid (ownM s n (pk C 3) 0=(re,rs)):=by
   show _=_;rw[<-HR.o];unfold doM;rw[d.o];show _=if inoN s _=0 then _ else _
   rw[f.o,zb l,en]
  go_wp2_with fail
  refine (z.o _).mono ?_;rintro e w7 ⟨rfl,rfl⟩;have b:=UV (H.o.below t.o) n T (pk C 3) 0 (by omega) (by omega) (by have p:=v.o.c8 d.o (by rw[f.o];exact l);rw[f.o,en]at p;exact p);rw[Q.o]at b;have c:=za b;clear b;go_wp2_with fail
  refine c.o.mono ?_;rintro e w8 ⟨rfl,m⟩;have E:=za (m.after t.o);clear m;go_wp2;go_ret;exact⟨rfl,E.o⟩
 .have Q:Hid (rO s (pk B 3) (pk C 20-1)=(re,rs)):=by show _=_;rw[<-HR.o];unfold doM;rw[d.o];rfl
  have aK:=tX B 3 (by omega) (by omega);have G:=tX C 20 (by omega) (by omega);have iw:=zW (pk C 20-1) (by omega);have kB:=xX c2;have kC:=xX c3;have kS:=xX c4;go_wp2_with fail
  refine fF 8 (by kernel_rfl) (by kernel_rfl) ?_;simp only[vu,xH,vv,vy]
  repeat (first
   | go_big_quiet_skip
   | (refine sG 18 #[.tmp 167,.const (.int .i64 3)] #[3,3] rfl rfl (λ_ _=>by kernel_rfl) #[B,(3:Int)] (by kernel_rfl) (.int .i64 (pk B 3)) (λ_ _=>vY) (λw' _=>(tW B 3 w' (by omega) (by omega)).mono λe w2 ⟨he,am⟩=>⟨he,am▸zB⟩) ?_;simp only[Act.put,zP,yf,yb])
   | (refine sG 18 #[.tmp 170,.const (.int .i64 20)] #[3,3] rfl rfl (λ_ _=>by kernel_rfl) #[C,(20:Int)] (by kernel_rfl) (.int .i64 (pk C 20)) (λ_ _=>vY) (λw' _=>(tW C 20 w' (by omega) (by omega)).mono λe w2 ⟨he,am⟩=>⟨he,am▸zB⟩) ?_;simp only[Act.put,zP,yf,yb])
   | (go_big_quiet_want;go_big_quiet_op;go_big_quiet_on))
  refine vn ?_;intro w7 a9;have N:=za (zi t.o (us a9));clear a9 c0 c1 c2 c3 c4 kB kC kS;have b:=UU (H.o.below N.o) (pk B 3) (pk C 20-1) v.o.q (by omega) (by omega) (v.o.c9 d.o);rw[Q.o]at b;have c:=za b;clear b;go_wp2_with fail
  refine c.o.mono ?_;rintro e w8 ⟨rfl,m⟩;have E:=za (m.after N.o);clear m;go_wp2;go_ret;exact⟨rfl,E.o⟩
 .have hm:(0,ZA s)=(re,rs):=by rw[<-HR.o];unfold doM;rw[d.o];rfl
  injection hm with m1 m2;subst m1 m2;obtain⟨o1,o2,o3,o4⟩:=v.o.c10 d.o;have c:=za (Vx (H.o.below t.o) o1 o2 o3 o4);clear o1 o2 o3 o4;go_wp2_with fail
  refine c.o.mono ?_;rintro e w8 ⟨rfl,m,k8⟩;have E:Hid (pW w gf (ZA s) F a w8):=⟨_,m,λr Z=>Z.imp id λh9=>zv t.o.size h9.1,(yK.of_below t.o).trans k8 λr Z=>zu Z⟩;clear m k8;go_wp2;go_ret;exact⟨rfl,E.o⟩
 .have aK:=tX B 2 (by omega) (by omega);have G:=tX C 3 (by omega) (by omega);have a3:=za (λW=>tW B 2 W (by omega) (by omega));have z:=za (λW=>tW C 3 W (by omega) (by omega));have ay:(if pk B 2=0 then ((ZJ s).1.2,(ZJ s).2) else je s (1+pk C 3).toNat)=(re,rs):=by rw[<-HR.o];unfold doM;rw[d.o];rfl
  by_cases aq:pk B 2=0
  .rw[ze aq]at ay;injection ay with m1 m2;subst m1 m2;rw[aq]at a3;clear aq aK G;go_wp2_with fail
   refine (a3.o _).mono ?_;rintro e w7 ⟨rfl,rfl⟩;have b:=WF (H.o.below t.o) (v.o.c11 d.o);have c:=za b;clear b c0 c1 c2 c3 c4;go_wp2_with fail
   refine c.o.mono ?_;rintro e w8 ⟨rfl,m⟩;have E:=za (m.after t.o);clear m;go_wp2;go_ret;exact⟨rfl,E.o⟩
  .rw[zb aq]at ay;have b9:(pk B 2==0)=false:=(by simpa using aq);obtain⟨fk,bw⟩:∃n:Nat,1+pk C 3=(n:Int):=⟨(1+pk C 3).toNat,by omega⟩;have iw:IntKind.i64.wrap (1+pk C 3)=fk:=(by rw[zM _ (by omega)];exact bw);have a6:(1+pk C 3).toNat=fk:=(by omega);rw[a6]at ay;have b:=hR (H.o.below t.o) fk (by omega) (by omega) (by have p:=v.o.c12 d.o;rw[show (1+pk (DoI.mk Y A B C S).C 3).toNat=fk from a6]at p;exact p);rw[ay]at b;have c:=za b;clear b aq aK G bw a6 ay;go_wp2_with fail
   refine (a3.o _).mono ?_;rintro e w7 ⟨rfl,rfl⟩;go_wp2_with fail
   refine (z.o _).mono ?_;rintro e w7 ⟨rfl,rfl⟩;go_wp2_with fail
   refine c.o.mono ?_;rintro e w8 ⟨rfl,m⟩;have E:=za (m.after t.o);clear m;go_wp2;go_ret;exact⟨rfl,E.o⟩
def rootA : AN:=⟨2,493,0,0,0,1,1,[]⟩
def ZC : Nat->AN:=λi=>if i=0 then rootA else zAN
theorem Pk (k i) (a:i<32):((tx0 (fs0 k)).nodes.getD i zN)=if i=0 then EB else zN:=Y1 i a
theorem De (k i b) (a:i<32):(tx0 (fs0 k)).pf i b=0:=by rw[Tx.pf,ze a,Pk k i a];split<;>rfl
theorem Gq: ((List.range 4).all λa=> !badN (vV 16) a&&!badT (vV 16) a)=true:=by kernel_rfl
theorem Df (k i) (a:i<32):(tx0 (fs0 k)).dirD (fs0 k) i=[]:=by rw[Zy _ _ a,Pk k i a];split<;>rfl
theorem N6 (F:64<=k) (E:k<=256):SI (fs0 k) 0 ZC:=by
 let⟨A,v,t,C⟩:=IL k F;have f:=Rv;have d:∀b,(tx0 (fs0 k)).pf 32 b=(vV 16).nd 0 b:=λb=>rfl;have s:∀i b,32<i->(tx0 (fs0 k)).pf i b=0:=λi b h=>by rw[Tx.pf,zb (by lia),zb (by lia)]
 refine⟨λT=>⟨⟨⟨λz=>if 37<=z/\z<53 then some (32,(z-37).toNat) else none,E,⟨Mr _,λ_=>rfl⟩,by kernel_rfl,λi b m g=>?_,λj o=>?_,λp c=>yi c oK,λp a c=>?_,λp i b c=>?_,λn D=>?_,List.Pairwise.nil,λy e=>yi e oK,λy e=>yi e oK⟩,λi b l q=>?_,by kernel_rfl,λa _ w=>?_,λi l=>?_,λy e=>yi e oK,λ_ _=>rfl⟩,⟨⟨Mr _,Mr _⟩,zL,zL,zL⟩,λj o=>?_,λi l b r B _=>?_⟩,by kernel_rfl,List.Pairwise.nil,yh _,λy e=>yi e oK,F,⟨A,t⟩,?_,rfl,⟨Mr _,Mr _⟩,by show (fmtE (qD k) k).W.length<=_;rw[v];exact zL,yh _⟩
 .rcases m with m|⟨rfl,m⟩
  .rw[De k i b m]at g;exact yi rfl g
  .rw[d,f b m,ze (by lia)]
   congr 2
   lia
 .rw[d,f j o];lia
 .split at c
  .left;show 37<=p/\p<(k:Int);lia
  .cases c
 .split at c
  .rename_i h;injection c with c;injection c with x u;subst x u;refine zu ⟨zw ⟨rfl,by lia⟩,?_⟩;rw[d,f _ (by lia)];lia
  .cases c
 .show (vV 16).hs 0 n=true↔_;simp only[vV,decide_true,Nq,yS,xe];by_cases h:37<=(n:Int)/\(n:Int)<53
  .rw[ze h];simp;lia
  .rw[zb h];simp;lia
 .rw[De k i b l]at q;lia
 .have h:=xp.1 Gq a (xy.2 w);simp[yS,um]at h;exact h
 .rw[Pk k i l];split
  .exact zw ⟨⟨by decide,by decide,by decide,by decide,by decide,by decide,by decide,by decide,by decide,by decide⟩,by decide,by decide,λ_=>⟨by decide,by decide⟩,λh=>yi rfl h,by decide⟩
  .exact zu rfl
 .rw[vw,ZC,Df k j o,Pk k j o];split<;>rfl
 .rw[blk,uY,De k i b l,ze rfl,vx,ze B]
 .refine gm t λp c=>?_;show qC (sec (fmtE (qD k) k).N p);rw[VG k F p c];exact NY k p E
theorem KH: RI ZC:=by
 have h:∀n,n≠0->(ZC n).k≠2:=λn b a=>by unfold ZC at a;rw[zb b]at a;cases a
 refine⟨rfl,λn _ b a=>yi a (h n b),λn _ a=>?_⟩;by_cases b:n=0
 .exact⟨0,b⟩
 .exact yi a (h n b)
theorem Sa: GI ZC λ_=>0:=by
 have d:∀i,kW (ZC i)=[]:=λi=>by
  unfold ZC;split
  .rw[kW,rootA,ze rfl];exact n9
  .rfl
 have f:∀z,cntA ZC z=0:=λz=>by unfold cntA;simp only[d,List.countP_nil];rfl
 have b:∀i,i≠0->ZC i=zAN:=λi h=>zb h;refine⟨λi g a=>?_,λi g e h=>(by rw[d]at h;cases h),λn c=>?_,λn c a=>?_,λn c a=>?_,rfl,λn c a=>?_⟩
 .unfold ZC at a |-;split
  .exact Sf
  .rename_i h;rw[zb h]at a;cases a
 .rw[f];by_cases h:n=0
  .subst h;rfl
  .rw[b n h,zb h];rfl
 .by_cases h:n=0
  .subst h;exact Mr 1
  .rw[b n h]at a;exact yi rfl a
 .by_cases h:n=0
  .subst h;cases a
  .exact b n h
 .by_cases h:n=0
  .subst h;rfl
  .rw[b n h]at a;cases a
def fB (l:List DoI):Fs:=l.foldl (λs x=>(doM s x).2) (fs0 96)
theorem pJ (l) (x):fB (l++[x])=(doM (fB l) x).2:=by rw[fB,xf];rfl
theorem Fl {c:Nat} {A:Nat->AN} (h:FsAt w gf s F a) (j:SI s c A) (g:GI A λ_=>0) (k:c<=1000) (x) (l:x.S.size<=600):
 Calls prog 10 #[(gf,()),.agg #[(x.K:Int),(x.A:Int),(x.B:Int),(x.C:Int),.string x.S]] w (ρ (.int .i64 (doM s x).1) λw'=>pW w gf (doM s x).2 F a w'):=by
 have b:=j.dirsOk g;let⟨d,_,f,i⟩:=TF b;exact do_any h b x ⟨f,by lia⟩ d (j.doOk g k x l)
def nmA : ByteArray:=⟨#[97]⟩
def fD1 : List Int:=layD (outD []++[(nmA,2)])
def fX0 : Pn:={EB with P:=[53],s:=16}
def fX1 : Pn:=⟨1,420,0,0,6,1,0,[54]⟩
def fDt : List Int:=[120,121,122]
def fs1 : Fs:=(addM (fs0 80) 0 [] nmA 1 420 0 0 []).2
def fs2 : Fs:=(wrtM fs1 1 3 fDt).2
def fs3 : Fs:=ZA fs2
def fdk : Dk:=jS fs3.dk []
def fdk' : Dk:=Qp fdk
def fs4 : Fs:=⟨fdk',80,seqO fdk.N,fs2.fo,[],fs2.nodes,[],[]⟩
theorem Sv: (addM (fs0 80) 0 [] nmA 1 420 0 0 []).1=(2,0)/\(wrtM fs1 1 3 fDt).1=(3,0):=⟨by kernel_rfl,by kernel_rfl⟩
def padS (l:List Int):List Int:=l++List.replicate (64-l.length) 0
def gS : Nat->List Int
 | 0=>padS [114,105,110,103,1,80]
 | 1=>padS [37,38,39,40,41,42,43,44,45,46,47,48,49,50,51,52]
 | 2=>padS [0,0,0,0,224,255,127]
 | 5=>padS [74,1,0,0,0,4,2,37,53,54]
 | 6=>padS [0,0,0,0,224,255,127]
 | 7=>padS [2,237,1,0,0,16,0,1,1,53,1,0,0,0,0,0,0,0,0,0,0,0,0,0,0,0,0,0,0,0,0,0,1,164,1,0,0,6,0,1,0,54,1]
 | 8=>padS [97,0,0,0,0,0,0,0,0,0,0,0,0,0,2]
 | 9=>padS [0,0,0,120,121,122]
 | 10=>padS [67,1,0,0,0,197,28,60,81]
 | 37=>padS [2,237,1,0,0,16,0,1,1,53,1,0,0,0,0,0,0,0,0,0,0,0,0,0,0,0,0,0,0,0,0,0,1,164,1,0,0,6,0,1,0,54,1]
 | 53=>padS [97,0,0,0,0,0,0,0,0,0,0,0,0,0,2]
 | 54=>padS [0,0,0,120,121,122]
 | _=>qL
def Is (l:List Int):Bool:=l.all λx=>decide (0<=x)&&decide (x<=255)
theorem SO {l:List Int} (h:Is l=true):∀x∈l,0<=x/\x<=255:=λx a=>by have:=xp.1 h x a;simpa using this
def freeQ (l:List Wr):Bool:=l.all λx=>decide (x.1<80)&&(decide (x.1<5)||decide (37<=x.1))
theorem G0 {l:List Wr} (h:freeQ l=true):∀x∈l,lM 80 x:=λx a=>by have:=xp.1 h x a;simpa[lM]using this
def secsQ (N:List Int) (g:Nat->List Int) (k:Nat):Bool:=(List.range k).all λn=>decide (sec N n=g n)
theorem kA {N:List Int} {g:Nat->List Int} (h:secsQ N g k=true):∀n,n<k->sec N n=g n:=λn a=>by have:=xp.1 h n (xy.2 a);simpa using this
theorem Ry: secsQ fdk'.N gS 80=true:=by kernel_rfl
theorem nL: (decide (sec fdk.N 0=Ng 80)&&Is fdk.N&&freeQ (iT fdk.N)&&decide (seqO fdk.N=1)&&decide (fdk.W.length=0))=true:=by kernel_rfl
theorem Dz (n) (a:n<80):∀x∈gS n,0<=x/\x<=255:=by
 have h:((List.range 80).all λn=>Is (gS n))=true:=by kernel_rfl
 exact SO (xp.1 h n (xy.2 a))
section
variable {N N' : Nat->List Int} {k : Nat} {f : Fo}
theorem S8.congr (h:S8 N f k) (b:4<=k) (a:∀n,n<k->N' n=N n):S8 N' f k:=by
 have e:ZL N'=ZL N:=by unfold ZL;rw[a 1 (by omega),a 2 (by omega),a 3 (by omega)]
 exact⟨by rw[e];exact h.eq,by rw[e];exact h.right,h.root,h.nds⟩
theorem OO (h:∀j,j<16->0<=nd j/\nd j<k) (a:∀n,n<k->N' n=N n) (j) (b:j<32):mL N' nd j=mL N nd j:=by unfold mL;have:=h (j / 2) (by omega);rw[a _ (by omega)]
theorem Zl.congr (h:Zl N nd k) (b:∀n,n<k->N' n=N n):Zl N' nd k:=
 ⟨h.1,λj a=>by rw[OO h.1 b j a];exact h.2 j a⟩
theorem R7 (h:∀j,j<16->0<=nd j/\nd j<k) (b:∀n,n<k->N' n=N n):RJ N' nd 32=RJ N nd 32:=by unfold RJ;refine uI λj a=>?_;rw[OO h b j (by simpa using a)]
theorem PS {P:List Int} (h:∀p∈P,p=0\/(37<=p/\p<k)) (d:∀n,n<k->N' n=N n) (s):sF N' P s=sF N P s:=by
 unfold sF;have e:P.flatMap (uY N')=P.flatMap (uY N):=by
  rw[MH,MH]
  congr 1
  refine uI λp a=>?_;unfold uY;rcases h p a with rfl|⟨c,b⟩
  .simp
  .rw[d _ (by omega)]
 rw[e]
theorem Zg.congr {t:Nat} (h:Zg N f t k L) (o:∀n,n<k->N' n=N n):Zg N' f t k L:=by
 have b:∀i,sF N' (L.getD i zN).P (L.getD i zN).s=sF N (L.getD i zN).P (L.getD i zN).s:=λi=>by
  refine PS (λp a=>?_) o _;by_cases l:i<L.length
  .rw[zt,zk l,oH]at a;exact h.own.pts _ (Nj _) p a
  .rw[zt,yW (by omega)]at a;cases a
 have e:entL N' L=entL N L:=by funext i;unfold entL;rw[b]
 have g:∀j,allL N' L j=allL N L j:=λj=>by
  induction j with
  | zero=>rfl
  | succ j d=>unfold allL;rw[d,e]
 exact⟨h.tree.congr o,(R7 h.tree.1 o).trans h.eq,h.own,h.size,λi m c=>by rw[b];exact h.list i m c,by rw[e];exact h.ways,h.up,by rw[g];exact h.names⟩
theorem EA {X:Nat->List En} (q:L.length=32) (m:∀i,i<32->((L.getD i zN).k=2↔i=0)) (p:∀e∈X 0,1<e.2/\e.2<=32) (r:(X 0).length<=32) (o:∀i,i≠0->X i=[]):oT L X:=by
 have c:∀i,∀e∈X i,(L.getD (e.2-1).toNat zN).k≠2:=λi e a g=>by
  by_cases b:i=0
  .subst b;have d:=p e a;have:=(m (e.2-1).toNat (by omega)).1 g;omega
  .rw[o i b]at a;cases a
 have f:∀i,subD L (X i)=[]:=λi=>List.eq_nil_iff_forall_not_mem.2 λz l=>by obtain⟨e,a,d,_⟩:=ol.1 l;exact c i e a d
 refine⟨⟨q,λi _ e a=>?_,λi _=>?_,λi _ e a h=>yi h (c i e a),λi _=>by rw[f];exact Lx,(m 0 (by omega)).2 rfl⟩,λn j h=>?_⟩
 .by_cases b:i=0
  .subst b;exact p e a
  .rw[o i b]at a;cases a
 .by_cases b:i=0
  .subst b;exact r
  .rw[o i b];exact yh _
 .obtain rfl:=(m n j).1 h;unfold ml;rw[ze (by simp),f,yY];unfold ml;rw[zb (by simp)];simp
theorem Te {N:Nat->List Int} {L:List Pn} (h:∀i,i≠0->entL N L i=[]):∀j,allL N L (j+1)=entL N L 0
 | 0=>yJ _
 | j+1=>by unfold allL;rw[Te h j,h (j+1) (by omega),yY]
theorem Cj.congr (h:Cj N f k) (d:5<=k) (c:∀n,n<k->N' n=N n):Cj N' f k:=
 ⟨by rw[c 0 (by omega)];exact h.mark,h.load.congr (by omega) c,by rw[c 4 (by omega)];exact h.quota,λt b a=>(h.tree t b a).imp λ_ h=>h.congr c⟩
end
def JX (bs:List Int):Bool:=
 decide (bs.length=32)&&(decide ((midB bs).length=16)&&decide ((kR (midB bs)).2=0)&&decide (qK (ofE (kR (midB bs)).1)=midB bs))&&decide (tm (bs.getD 0 0) (bs.getD 1 0+bs.getD 2 0*256) (bs.getD 3 0) (bs.getD 4 0) (bs.getD 5 0+bs.getD 6 0*256) (bs.getD 7 0) (bs.getD 8 0) (ptsN bs)=0) &&
 decide (tc (bs.getD 0 0) (bs.getD 1 0+bs.getD 2 0*256) (bs.getD 3 0) (bs.getD 4 0) (bs.getD 5 0+bs.getD 6 0*256) (bs.getD 7 0) (bs.getD 8 0) (ptsN bs)=bs)
theorem GN {bs:List Int} (h:JX bs=true):NA bs:=by unfold JX at h;simp only[yS,xe]at h;exact⟨h.1.1.1,⟨h.1.1.2.1.1,h.1.1.2.1.2,h.1.1.2.2⟩,h.1.2,h.2⟩
def Vf (N:Nat->List Int) (L:List Pn):List Int:=sF N (L.getD 0 zN).P (L.getD 0 zN).s
def J8 (N:Nat->List Int) (f:Fo) (k:Nat) (L:List Pn):Bool:=
 decide (N 0=Ng k)&&decide (fD (foB (ZL N))=0)&&(uB f 0&&!uB f 1&&!uB f 2&&!uB f 3) &&
 ((List.range 16).all λi=>decide (37<=f.nd 0 i)&&decide (f.nd 0 i<k))&&decide (N 4=qL) &&
 ((List.range 32).all λj=>JX (mL N (f.nd 0) j)) &&
 decide ((Mi (f.nd 0) 16++tV L).Nodup)&&(L.all λx=>decide (x.P.length<=8)&&x.P.all λp=>decide (p=0)||(decide (37<=p)&&decide (p<k))) &&
 ((List.range 256).all λm=>decide (rm (Mi (f.nd 0) 16++tV L) m=f.hs 0 m)) &&
 ((List.range 32).all λi=>decide (0<=(L.getD i zN).s)&&decide ((L.getD i zN).s<=512))&&oB (Vf N L) &&
 (decide (L.length=32)&&((List.range 32).all λi=>decide ((L.getD i zN).k=2)==decide (i=0))&&((outD (Vf N L)).all λx=>decide (1<x.2)&&decide (x.2<=32))&&decide ((outD (Vf N L)).length<=32)) &&
 decide ((L.getD 0 zN).up=1)&&((List.range 32).all λi=>decide ((L.getD i zN).l=iX (outD (Vf N L)) i)&&(!decide ((L.getD i zN).k=0)||decide (iX (outD (Vf N L)) i<=0)))
theorem G6 {N:Nat->List Int} (h:J8 N f k L=true) (Q:encF (foB (ZL N))=encF f) (R:RJ N (f.nd 0) 32=L):Cj N f k:=by
 unfold J8 at h;simp only[yS,xe,xp,xy,um,MK,wX,zz]at h;obtain⟨⟨⟨⟨⟨⟨⟨⟨⟨⟨⟨⟨⟨I,G⟩,⟨⟨O,D⟩,E⟩,F⟩,w⟩,M⟩,P⟩,s⟩,e⟩,u⟩,m⟩,o⟩,⟨⟨v,y⟩,q⟩,B⟩,n⟩,g⟩:=h;refine⟨I,⟨Q,G,O,λt i H b a=>?_⟩,by rw[M];exact TR,λt H a=>?_⟩
 .have:t=0\/t=1\/t=2\/t=3:=by omega
  rcases this with rfl|rfl|rfl|rfl
  .exact w i b
  .rw[D]at a;cases a
  .rw[E]at a;cases a
  .rw[F]at a;cases a
 .have:t=0\/t=1\/t=2\/t=3:=by omega
  rcases this with rfl|rfl|rfl|rfl
  .have c:∀i,i<32->((L.getD i zN).k=2↔i=0):=λi b=>(by simpa using y i b);have C:∀i,i≠0->entL N L i=[]:=λi b=>by
    unfold entL;rw[zb];intro l;by_cases h:i<32
    .exact b ((c i h).1 l)
    .rw[zt,yW (by omega)]at l;cases l
   have d:entL N L 0=outD (Vf N L):=ze ((c 0 (by omega)).2 rfl);have J:allL N L 32=outD (Vf N L):=(Te C 31).trans d;refine⟨L,⟨λj A=>?_,λj A=>GN (P j A)⟩,R,⟨s,w,λx z p K=>(e x z).2 p K,u,λx z=>(e x z).1⟩,m,λi b r=>?_,EA v c (by rw[d];exact q) (by rw[d];exact B) C,n,λi b=>?_⟩
   .have:=w j A;omega
   .obtain rfl:=(c i b).1 r;exact o
   .rw[J];exact⟨(g i b).1,λr=>(g i b).2.resolve_left (λl=>l r)⟩
  .rw[D]at a;cases a
  .rw[E]at a;cases a
  .rw[F]at a;cases a
theorem VK: J8 gS fs2.fo 80 fs2.nodes=true:=by kernel_rfl
theorem ZX: encF (foB (ZL gS))=encF fs2.fo:=by kernel_rfl
theorem Sk: RJ gS (fs2.fo.nd 0) 32=fs2.nodes:=by kernel_rfl
theorem qw: Cj gS fs2.fo 80:=G6 VK ZX Sk
theorem Li (k):dirB (fs0 k) 0=[]:=Df k 0 (by omega)
theorem U6: ∃A,SI fs1 1 A/\GI A λ_=>0:=by obtain⟨A,a,b,_⟩:=(N6 (k:=80) (by omega) (by omega)).addM Sa (by omega) (i:=0) (by omega) rfl (k:=1) (m:=420) (u:=0) (gg:=0) (by omega) ⟨yh _,λy c=>yi c oK⟩ (λh=>by omega) [] nmA;exact⟨A,a,b⟩
theorem jP: qC fDt:=SO (by kernel_rfl)
theorem ZZ: ∃A,SI fs2 2 A/\GI A λ_=>0:=by obtain⟨A,h,g⟩:=U6;obtain⟨B,a,b,_⟩:=h.wrtM g (by omega) (i:=1) (by omega) 3 jP;exact⟨B,a,b⟩
theorem ZY (n) (b:Rx (fs0 80)=some n):Tk (fs0 80) 0 n (newP 1 420 0 0 0) [] nmA:=((N6 (k:=80) (by omega) (by omega)).add Sa (by omega) (i:=0) (by omega) rfl b (by omega) ⟨yh _,λy a=>yi a oK⟩ (λ_=>rfl) nmA).1
theorem fs1_k1: (fs1.nodes.getD 1 zN).k=1:=by kernel_rfl
theorem ZW: FP fs1 1 3 fDt:=by obtain⟨A,h,g⟩:=U6;exact (h.write g (by omega) (i:=1) (by omega) ((h.A_at (by omega)).1.symm.trans fs1_k1) (by decide) (by decide) jP).1
theorem fs2_n0: fs2.nodes[0]?=some fX0:=by kernel_rfl
theorem II: fs2.nodes[1]?=some fX1:=by kernel_rfl
theorem fs2_k: fs2.k=80:=by kernel_rfl
theorem VJ: oA (sF (secE fs2) fX1.P fX1.s) 2 9=[0,120,121,122]:=by kernel_rfl
theorem VI: oA (sF gS fX1.P fX1.s) 0 9=[0,0,0,120,121,122]:=by kernel_rfl
theorem XI: sF gS fX0.P fX0.s=fD1:=by kernel_rfl
theorem WJ: qC fD1/\oB fD1=true/\(rI fD1 nmA).1=2/\(rI fD1 nmA).2.2=0:=⟨SO (by kernel_rfl),by kernel_rfl,by kernel_rfl,by kernel_rfl⟩
theorem Ze {w':World} (h:uM w v D) (m:∀b,v.ownBlock=some b->¬F b) (n:yK F w w'):uM w' v D:=by obtain⟨k,i⟩:=h;refine⟨k,i.imp id ?_⟩;rintro ⟨g,c,d,rfl,e⟩;refine⟨g,c,d,rfl,λj x f=>?_⟩;have a:=zy (e j x f);have l:=n.block g a (m g rfl);rw[<-e j x f];unfold World.cell?;simp only;rw[l]
theorem Tb: prog.underlying 5=some (.int .u8):=by kernel_rfl
theorem O4: prog.underlying 9=some .string:=by kernel_rfl
theorem Lu: prog.underlying 38=some (.slice 5):=by kernel_rfl
theorem fJ (l:List Int) (h:0<l.length) (e:uM w v l):(convert 38 9 v).run prog w=.ok (.string (tu l)) w:=by
 obtain⟨b,⟨d,_⟩|⟨g,o,c,rfl,a⟩⟩:=e
 .omega
 .exact sC w _ _ _ g o c l.length l rfl Lu Tb O4 a
theorem Re (n:Nat) (a:n<80):secE fs4 n=gS n:=kA Ry n a
theorem fDt_at (w:World):uM (w.alloc (.cells #[.int .u8 120,.int .u8 121,.int .u8 122] 5 (3,4))) (.slice (some ⟨w.heap.size,0,none⟩) 3 3) fDt:=
 rH (by decide) (zH) rfl
theorem Fz (h:uM w v D) (f:0<D.length) (b:Nat) (i:v.ownBlock=some b):b<w.heap.size:=by
 obtain⟨_,⟨d,_⟩|⟨g,o,c,rfl,a⟩⟩:=h
 .omega
 .have e:g=b:=by simpa[Value.ownBlock]using i
  rw[<-e];exact zy (a 0 _ (Ch D 0 f))
theorem G9 (j:Nat) (a:j<16):0<=fs2.fo.nd 0 j/\fs2.fo.nd 0 j<((80:Nat):Int):=by have:=qw.load.nds 0 j (by omega) a qw.load.root;omega
theorem gO: RJ (sec fdk'.N) (fs2.fo.nd 0) 32=fs2.nodes:=(R7 G9 (kA Ry)).trans Sk
theorem Zb: Cj (sec fdk'.N) fs2.fo 80:=qw.congr (by omega) (kA Ry)
theorem XJ: ∀X∈fs2.nodes,X.k=0\/X.l≠0:=by
 have h:(fs2.nodes.all λX=>decide (X.k=0)||!decide (X.l=0))=true:=by kernel_rfl
 intro X a;have:=xp.1 h X a;simpa using this
theorem IM (P:List Int) (p:Int) (h:P=[p]) (b:37<=p) (c:p<((80:Nat):Int)):∀q∈P,q=0\/(37<=q/\q<((80:Nat):Int)):=λq a=>by rw[h]at a;rw[xZ.1 a];exact zw ⟨b,c⟩
theorem Mf: sF (secE fs4) fX0.P fX0.s=fD1:=(PS (IM fX0.P 53 rfl (by omega) (by omega)) Re _).trans XI
theorem U5: oA (sF (secE fs4) fX1.P fX1.s) 0 9=[0,0,0,120,121,122]:=by rw[PS (IM fX1.P 54 rfl (by omega) (by omega)) Re];exact VI
theorem Pv (w:World):Calls prog 7 #[] w (κ w (.bool true)):=by
 have aC:=za (OI 80 (by omega) (by omega) w);go_enter func7,ntmps7;go_wp2_with fail
 refine aC.o.mono ?_;rintro e w1 ⟨x,a,F1,rfl,h1,ar,ai⟩;have I:=za ar;have H:=(N6 (k:=80) (by omega) (by omega)).dirS Sa (i:=0) (by omega) rfl;rw[Li]at H;have G:=Tp h1 0 _ _ H nmA (by kernel_rfl) 1 420 0 0 (zu rfl) (by omega) (by omega) (by omega) (λ_ n Q=>ZY n Q);rw[Sv.1]at G;have aN:Hid (Calls prog 28 #[(x,()),(1:Int),.string ⟨#[97]⟩,(1:Int),(420:Int),(),()] w1
  (ρ (.tuple #[(2:Int),()]) λw'=>pW w1 x fs1 F1 a w')):=G
 have X:=za ai;clear h1 ar ai H G;go_wp2_with fail
 refine aN.o.mono ?_;rintro e U ⟨rfl,F2,h2,f2,k2⟩;have aq:Hid (∀i,F2 i->w.heap.size<=i):=λi J=>(f2 i J).elim (X.o i) (λh=>zv I.o.size h);have ac:Hid (Below w w U):=I.o.trans (k2.to_below X.o I.o.size);have aG:Hid (∀(W:World) (v:Value),Below U U W->mU W v fDt->Calls prog 29 #[(x,()),(2:Int),(3:Int),v] W
  (ρ (.tuple #[(3:Int),()]) λw'=>pW W x fs2 F2 a w')):=λW v f hv=>by
  have hw:=KV (h2.below f) 1 (by omega) 3 (by omega) v fDt hv (by decide) (λ_ _ _=>ZW);rw[Sv.2]at hw;exact hw
 clear h2 k2 f2;have kc:=Lib.run_convert_bytes_const (P:=prog) U 38 5 #[.int .u8 120,.int .u8 121,.int .u8 122] 3 3 underlying38 underlying5;go_wp2_with fail
 refine (aG.o _ _ (zB.alloc zL _) ?_).mono ?_
 .exact⟨fDt_at U,λq n c h=>by injection h with h1 h2 R;omega⟩
 rintro e m ⟨rfl,F,R,f3,k3⟩;have A:Hid (Below w w (U.alloc (.cells #[.int .u8 120,.int .u8 121,.int .u8 122] 5 (3,4)))):=ac.o.alloc ac.o.size _;have HF:Hid (∀i,F i->w.heap.size<=i):=λi J=>(f3 i J).elim (aq.o i) (λh=>zv A.o.size h);have aM:Hid (Below w w m):=A.o.trans (k3.to_below aq.o A.o.size);have y:=za R.fin;obtain⟨A2,B,aB⟩:=ZZ;have aD:Hid (Calls prog 16 #[(x,()),(2:Int),(2:Int),(9:Int)] m
  (λe w'=>∃v,e=.returned (.tuple #[v,()])/\uM w' v (oA (sF (secE fs2) fX1.P fX1.s) 2 9)/\(∀b,v.ownBlock=some b->m.heap.size<=b)/\Below m m w')):=
  Sq R B.byteE 1 (by omega) fX1 II rfl (λp hp=>by rw[xZ.1 hp,fs2_k];exact⟨by decide,by decide⟩) (by decide) (by decide) 2 9 (by omega) (by omega) (by omega)
 have H3:=za R;obtain⟨o1,o2,o3,o4⟩:=B.syncOk (by omega);have aQ:=za (λ(W:World) (f:Below m m W)=>Vx (R.below f) o1 o2 o3 o4);clear R k3 f3 o1 o2 o3 o4 B aB;go_wp2_with fail
 refine aD.o.mono ?_;rintro e w4 ⟨S,rfl,r,O,u⟩;rw[VJ]at r;have aP:=za r;have b8:=za O;have aY:=za (aQ.o w4 u);have ak:Hid (Below w w w4):=zi aM.o u;have ae:Hid (m.heap.size<=w4.heap.size):=u.size;have g:Hid (∀b,S.ownBlock=some b->m.heap.size<=b/\b<w4.heap.size):=λb l=>⟨O b l,Fz r (by decide) b l⟩;clear r O u;go_wp2_with fail
 refine aY.o.mono ?_;rintro e w5 ⟨rfl,h5,k5⟩;obtain⟨⟨gl,rv,nv,bt,bh,E,tl,FD,g1,g2,g3,g4,g5,g6,g7,g8,g9,aH,ax,aW,aU,a9,ay,aE,a8⟩,a1,a2,a3,a4,a5,a6,a7⟩:=h5;have ah:=za g3;have ab:uT w5 a fs3.dk 80 FD:=by rw[show (ZA fs2).k=80 from fs2_k]at g2;exact g2
 have aZ:=za (Fr ab (.slice none 0 0) [] (λw' _=>⟨rfl,zu ⟨rfl,none,0,rfl⟩⟩) (by simp));have t:=za k5;clear ab g1 g2 g3 g4 g5 g6 g7 g8 g9 aH ax aW aU a9 ay aE a8 a1 a2 a3 a4 a5 a6 a7 k5;go_wp2_with fail
 refine aZ.o.mono ?_;rintro e w6 ⟨rfl,F6,d6,f6,k6⟩;have aX:Hid (Calls prog 32 #[a] w6
  (λe w'=>∃x F',e=.returned (.tuple #[.pointer (some ⟨x,0,none⟩),()])/\FsAt w' x fs4 F' a/\yK F6 w6 w'/\(∀i,F' i->F6 i\/w6.heap.size<=i))):=by
  have hd:=nL;simp only[yS,xe]at hd;obtain⟨⟨⟨⟨e1,e2⟩,e3⟩,e4⟩,e5⟩:=hd;have aK:jq (sec fdk'.N 4)=[]:=by rw[kA Ry 4 (by omega)];kernel_rfl
  have hm:=Ww d6 (by omega) (by omega) fdk' (seqO fdk.N) (λW f=>Ws (by omega) (by omega) (d6.below f) (SO e2) (G0 e3) (by show fdk.W.length<_;rw[e5];omega)) e1
   (λn Q=>by rw[kA Ry n Q];exact Dz n Q) fs2.fo Zb.load (by have:=Zb.tree 0 (by omega) qw.load.root;obtain⟨_,h⟩:=this;exact h.tree) Zb.quota
   (by rw[gO];exact XJ)
  rw[aK]at hm;rw[gO]at hm;exact hm
 have L:=za k6;have aj:=za f6;clear d6 f6 k6;go_wp2_with fail
 refine aX.o.mono ?_;rintro e d ⟨an,F7,rfl,h7,k7,f7⟩;have K:=za k7;have b6:=za f7;have j:Tj fs4:=λn Q=>by rw[Re n Q];exact Dz n Q
 have C:=SK h7 0 fX0 fD1 ⟨by omega,fs2_n0,rfl,by decide,λp hp=>by rw[xZ.1 hp];exact⟨by decide,by decide⟩,by decide,by decide,Mf,WJ.1,WJ.2.1⟩ nmA (by kernel_rfl);rw[WJ.2.2.1,WJ.2.2.2]at C;have aO:Hid (Calls prog 21 #[(an,()),(1:Int),.string ⟨#[97]⟩] d (κ d (.tuple #[(2:Int),()]))):=C;have Z:Hid (∀W,Below d d W->Calls prog 16 #[(an,()),(2:Int),(),(9:Int)] W
  (λe w'=>∃v,e=.returned (.tuple #[v,()])/\uM w' v (oA (sF (secE fs4) fX1.P fX1.s) 0 9)/\(∀b,v.ownBlock=some b->W.heap.size<=b)/\Below W W w')):=λW f=>
  Sq (h7.below f) j 1 (by omega) fX1 II rfl (λp hp=>by rw[xZ.1 hp];exact⟨by decide,by decide⟩) (by decide) (by decide) 0 9 (by omega) (by omega) (by omega)
 have aA:=za (λW (f:Below d d W)=>Pr (h7.below f) j (qw.congr (by omega) Re));clear h7 k7 f7 j C;go_wp2_with fail
 refine aO.o.mono ?_;rintro e w8 ⟨rfl,V⟩;have ag:=za V;clear V;go_wp2_with fail
 refine (Z.o w8 ag.o).mono ?_;rintro e T ⟨v9,rfl,M,aR,aa⟩;rw[U5]at M;have D:Hid (Below d d T):=zi ag.o aa;have aV:Hid (∀W:World,Below T T W->(convert 38 9 v9).run prog W=.ok (.string ⟨#[0,0,0,120,121,122]⟩) W):=λW f=>fJ [0,0,0,120,121,122] (by decide) (M.below f);have aL:Hid (∀W:World,Below d d W->(convert 38 9 S).run prog W=.ok (.string ⟨#[0,120,121,122]⟩) W):=λW f=>by
  have z3:=ae.o;have z5:=t.o.size;have e5:uM w5 S [0,120,121,122]:=Ze aP.o (λb l Y=>by have:=g.o b l;have:=y.o b Y;omega) t.o;have nD:∀b,S.ownBlock=some b->¬FD b:=λb l Y=>by
   have:=g.o b l;rcases ah.o b Y with h|h
   .have:=y.o b h;omega
   .omega
  have e6:uM w6 S [0,120,121,122]:=Ze e5 nD L.o;have e7:uM d S [0,120,121,122]:=Ze e6 (λb l Y=>by
   have:=g.o b l;rcases aj.o b Y with h|h
   .exact nD b l h
   .omega) K.o
  exact fJ [0,120,121,122] (by decide) (e7.below f)
 have h1:=aL.o T D.o;have h2:=aV.o T zB;have az:=za (aA.o T D.o);clear M aR aa;go_wp2_with fail
 refine az.o.mono ?_;rintro e am ⟨rfl,z⟩;have al:Hid (Below d d am):=zi D.o z;clear z h1 h2;have aT:Hid (Below w w am):=by
  have z4:=ak.o.size;have z5:=t.o.size;have z6:=L.o.size;have z7:=K.o.size;have y5:=ak.o.trans (t.o.to_below HF.o (by omega));have nD:∀i,FD i->w.heap.size<=i:=λi J=>by
   rcases ah.o i J with h|h
   .exact HF.o i h
   .omega
  have y6:=y5.trans (L.o.to_below nD (by omega));have y7:=y6.trans (K.o.to_below (λi J=>(aj.o i J).elim (nD i) (λh=>by omega)) (by omega));exact zi y7 al.o
 go_wp2;go_ret;exact⟨rfl,aT.o⟩
open Go.ChangeAt Go.ChangeShapes Go.Deep Go.WideShapes
section
variable {H : Type} {enc : TypeId×Value->H} {P : Program} {w : World} {base : Nat} {spare : Nat->Bool} {held : Bool}
theorem YX {fuel:Nat} {cs:List Value} {x:DataW H×List MemPlace} (R:P.underlying t=some (.slice e)) (S:P.underlying e=some (.struct #[f0,f1,f2,f3,f4]))
 (T:P.cellsOf e=5) (U:f0.offset=0) (V:f1.offset=1) (o2:f2.offset=2) (W:f3.offset=3) (X:f4.offset=4) (Y:P.cellsOf f0.type=1) (Z:P.cellsOf f1.type=1) (c2:P.cellsOf f2.type=1) (c3:P.cellsOf f3.type=1) (c4:P.cellsOf f4.type=1)
 (h:DataW.trod enc P w base spare held fuel t cs=some x):
 cs=[.slice none 0 0] \/
 ∃(a:Addr) (len cap n:Nat),cs=[.slice (some a) len cap]/\len<=cap/\cap<=maxLen /\
  ∀i,i<len->∃(v0 v1 v2 v3 v4:Value) (y0 y1 y2 y3 y4:DataW H×List MemPlace),w.cell? (a.add (i*5))=some v0/\w.cell? (a.add (i*5+1))=some v1/\w.cell? (a.add (i*5+2))=some v2/\w.cell? (a.add (i*5+3))=some v3/\w.cell? (a.add (i*5+4))=some v4 /\
   DataW.trod enc P w base spare held n f0.type [v0]=some y0/\DataW.trod enc P w base spare held n f1.type [v1]=some y1/\DataW.trod enc P w base spare held n f2.type [v2]=some y2/\DataW.trod enc P w base spare held n f3.type [v3]=some y3/\DataW.trod enc P w base spare held n f4.type [v4]=some y4:=by
 rcases open_slice R h with E|⟨a,len,cap,m,n,D,Q,rfl,M,G,L,g,rfl,K⟩
 .exact zu E.1
 right;have I:len<=m:=by rw[g];split<;>omega
 refine⟨a,len,cap,n-1,rfl,G,L,λi O=>?_⟩;obtain⟨l,r,C⟩:=K i (by omega);rw[T]at r;obtain⟨_,c,b⟩:=World.cells?_some r;obtain⟨J,k,N,F,_,f,d⟩:=DataW.trod_struct S C;have j:k=n-1:=by omega
 subst j
 match J,f,l,c with
 | [y0,y1,y2,y3,y4],_,[v0,v1,v2,v3,v4],_=>
  have q:=d 0 f0 rfl;have v:=d 1 f1 rfl;have p:=d 2 f2 rfl;have B:=d 3 f3 rfl;have u:=d 4 f4 rfl;simp[U,V,o2,W,X,Y,Z,c2,c3,c4]at q v p B u;have o:=b 0 (by omega);have y:=b 1 (by omega);have s:=b 2 (by omega);have z:=b 3 (by omega);have A:=b 4 (by omega);rw[add_add]at o y s z A;exact⟨v0,v1,v2,v3,v4,y0,y1,y2,y3,y4,by simpa using o,by simpa using y,by simpa using s,by simpa using z,by simpa using A,q,v,p,B,u⟩
end
theorem Yc (l):(dos l).length=l.length*5:=by
 induction l with
 | nil=>rfl
 | cons y l a=>
  show (dos l).length+5=_;rw[a,yv];omega
theorem Yb (l) (j) (x) (h:(dos l)[j]?=some x):∃k,∃hk,(j=k*5/\x=.int .i64 l[k].K)\/(j=k*5+1/\x=.int .i64 l[k].A)\/(j=k*5+2/\x=.int .i64 l[k].B)\/(j=k*5+3/\x=.int .i64 l[k].C)\/(j=k*5+4/\x=.string l[k].S):=by
 have b:=(zG.1 h).1;rw[Yc]at b;have hk:j / 5<l.length:=by omega
 have a:=VP l (j / 5) hk;refine⟨j / 5,hk,?_⟩;rcases (by omega:j=j / 5*5\/j=j / 5*5+1\/j=j / 5*5+2\/j=j / 5*5+3\/j=j / 5*5+4) with e|e|e|e|e<;>rw[<-e,h]at a
 .exact zu ⟨e,by simpa using a.1⟩
 .exact zw (zu ⟨e,by simpa using a.2.1⟩)
 .exact zw (zw (zu ⟨e,by simpa using a.2.2.1⟩))
 .exact zw (zw (zw (zu ⟨e,by simpa using a.2.2.2.1⟩)))
 .exact zw (zw (zw (zw ⟨e,by simpa using a.2.2.2.2⟩)))
theorem qlm {H:Type} {enc':TypeId×Value->H} {P:Program} {base:Nat} {held:Bool} {r:Reach} {b0:Nat} {d:DataW H} {ps:List MemPlace}  
 (ht:P.underlying t=some (.slice e)) (he:P.underlying e=some (.struct #[f0,f1,f2,f3,f4])) (ce:P.cellsOf e=5) (o0:f0.offset=0) (o1:f1.offset=1) (o2:f2.offset=2) (o3:f3.offset=3) (o4:f4.offset=4) (c0:P.cellsOf f0.type=1) (c1:P.cellsOf f1.type=1) (c2:P.cellsOf f2.type=1) (c3:P.cellsOf f3.type=1) (c4:P.cellsOf f4.type=1)
 (u0:P.underlying f0.type=some (.int .i64)) (u1:P.underlying f1.type=some (.int .i64)) (u2:P.underlying f2.type=some (.int .i64)) (u3:P.underlying f3.type=some (.int .i64)) (u4:P.underlying f4.type=some .string)
 (aa:Value.okWide P w r b0 t v) (hd:DataW.Trod enc' P w base (λ_=>true) held t v d ps):
 ∃l,mi w v l/\l.length<=maxLen/\∀x,x∈l->x.S.size<=maxLen:=by
 obtain⟨a0,m,s,rfl⟩:=okWide_slice ht aa;obtain⟨Q,hf⟩:=hd;rcases YX ht he ce o0 o1 o2 o3 o4 c0 c1 c2 c3 c4 hf with q|⟨a,aq,af,n,q,al,Y,O⟩
 .simp[Value.cells]at q;obtain⟨rfl,rfl,rfl⟩:=q;exact⟨[],⟨rfl,zu ⟨rfl,_,_,rfl⟩⟩,yh _,by simp⟩
 .simp[Value.cells]at q;obtain⟨rfl,rfl,rfl⟩:=q;rcases wM m with L|L
  .subst L;exact⟨[],⟨rfl,zu ⟨rfl,_,_,rfl⟩⟩,yh _,by simp⟩
  .obtain⟨g,b,p⟩:=a;have hs:p=none:=(by obtain⟨v0,_,_,_,_,_,_,_,_,_,hh,_⟩:=O 0 (by omega);have:=World.cell?_spot hh;simpa[Addr.add]using this);subst hs;have G:∀i,∃z:DoI,i<m->w.cell? ⟨g,b+i*5,none⟩=some (.int .i64 z.K)/\w.cell? ⟨g,b+(i*5+1),none⟩=some (.int .i64 z.A)/\w.cell? ⟨g,b+(i*5+2),none⟩=some (.int .i64 z.B)/\w.cell? ⟨g,b+(i*5+3),none⟩=some (.int .i64 z.C)/\w.cell? ⟨g,b+(i*5+4),none⟩=some (.string z.S)/\z.S.size<=maxLen:=λi=>by
    by_cases N:i<m
    .obtain⟨v0,v1,v2,v3,v4,y0,y1,y2,y3,y4,o,f,E,F,I,k0,W,k2,k3,k4⟩:=O i N;obtain⟨z0,J,_⟩:=vz u0 k0;obtain⟨z1,T,_⟩:=vz u1 W;obtain⟨z2,M,_⟩:=vz u2 k2;obtain⟨z3,U,_⟩:=vz u3 k3;obtain⟨z4,V,_,X⟩:=DataW.trod_string u4 k4;rw[add_plain]at o f E F I;simp at J T M U V;rw[J]at o;rw[T]at f;rw[M]at E;rw[U]at F;rw[V]at I;exact⟨⟨z0,z1,z2,z3,z4⟩,λ_=>⟨o,f,E,F,I,X⟩⟩
    .exact⟨⟨0,0,0,0,ByteArray.empty⟩,λh=>yi h N⟩
   obtain⟨Z,R⟩:=Classical.axiomOfChoice G;have c:((List.range m).map Z).length=m:=(by simp);refine⟨(List.range m).map Z,⟨Yc _,zw ⟨g,b,s,by rw[c],λj x hj=>?_⟩⟩,by rw[c];omega,λx u=>?_⟩
   .obtain⟨k,D,o⟩:=Yb _ j x hj;have y:k<m:=(by rwa [c]at D);have f:=R k y;simp only[uv,MV]at o;rcases o with⟨rfl,rfl⟩|⟨rfl,rfl⟩|⟨rfl,rfl⟩|⟨rfl,rfl⟩|⟨rfl,rfl⟩
    .exact f.1
    .exact f.2.1
    .exact f.2.2.1
    .exact f.2.2.2.1
    .exact f.2.2.2.2.1
   .obtain⟨k,D,rfl⟩:=yd.1 u;exact (R k (by simpa using D)).2.2.2.2.2
