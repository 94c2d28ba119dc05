import Derived.Test.YtpcedcnjofbgjaaGreatDoorKA24
import Derived.Test.YtpcedcnjofbgjaaGreatDoorKB5
set_option maxHeartbeats 0
set_option linter.all false
set_option maxRecDepth 100000
namespace Go.Proofs.YtpcedcnjofbgjaaGreatDoor
open Go.RowKit
variable {b:List Int} {i:Nat}
section
variable {N : Nat->List Int} {f : Fo} {t k : Nat} {L : List Pn} {B : Nat->AN}
theorem Jd (h:b.length=192):sec b 0++(sec b 1++sec b 2)=b:=by
 unfold sec;rw[show 64*0=0 from rfl,show 64*1=64 from rfl,show 64*2=128 from rfl,vy];have a:(b.drop 128).take 64=b.drop 128:=zo (by grind);have c:(b.drop 64).take 64++b.drop 128=b.drop 64:=by have:=xr 64 (b.drop 64);simp_all
 rw[a,c,xr]
theorem JW {a:List Int} (c:a.length=32) (d:b.length=32) (i) (e:i<2):half (a++b) i=if i=0 then a else b:=by
 unfold half;have:i=0\/i=1:=by omega
 rcases this with rfl|rfl
 .rw[ze rfl,show 32*0=0 from rfl,vy,yC (by omega),zo (by omega)]
 grind
theorem fC.right (h:fC N f t k L B) (d:k<=256) (c:i<32):QG (L.getD i zN)=0:=il (h.fld i c) λp a=>by rcases h.own.pts _ (Po h.len c) p a with b|b<;>omega
theorem fC.chunk (h:fC N f t k L B) (c:k<=256) {j:Nat} (d:j<32):mL N (f.nd t) j=oo (L.getD j zN):=by
 rw[mL,h.nd (j / 2) (by omega)];unfold pk2L;have a:(oo (L.getD (2*(j / 2)) zN)).length=32:=sr (h.right c (i:=2*(j / 2)) (by omega));have b:(oo (L.getD (2*(j / 2)+1) zN)).length=32:=sr (h.right c (i:=2*(j / 2)+1) (by omega));rw[JW a b _ (by omega)];grind
theorem Ul {X:Pn} (h:QG X=0):pnOf (oo X)=X/\NA (oo X):=by let⟨a,e,c,g,j,i,d,f,b⟩:=Xm h;refine⟨?_,a⟩;rw[pnOf,oo,e,c,g,j,i,d,f,b]
theorem fC.tree (h:fC N f t k L B) (l:k<=256):Zl N (f.nd t) k/\RJ N (f.nd t) 32=L:=by
 refine⟨⟨λj a=>by have:=h.own.nds j a;omega,λj a=>by rw[h.chunk l a];exact (Ul (h.right l a)).2⟩,?_⟩;apply oL
 .rw[qF,h.len]
 .intro i d b;have c:i<32:=by rwa[h.len]at b
  have e:(RJ N (f.nd t) 32)[i]?=some (pnOf (mL N (f.nd t) i)):=by unfold RJ;grind
  have g:L[i]?=some (L.getD i zN):=by grind
  apply tZ;rw[<-zk d,<-zk b,e,g,h.chunk l c,(Ul (h.right l c)).1]
theorem fC.ents (h:fC N f t k L B) (a:i<32):entL N L i=kW (B i)/\(L.getD i zN).k=(B i).k/\(L.getD i zN).l=(B i).l/\(L.getD i zN).up=(B i).up/\(L.getD i zN).s=(B i).s/\sF N (L.getD i zN).P (L.getD i zN).s=(B i).D:=by have:=h.v i a;rw[entL,kW,<-this];exact⟨rfl,rfl,rfl,rfl,rfl,rfl⟩
theorem Uy (X) (i) (e:i<32):(ML X).getD i 0=(X.countP (isTo (i+1))):=by
 have b:∀n,n<=X.length->(ML (X.take n)).getD i 0=((X.take n).countP (isTo (i+1))):=λn=>by
  induction n with
  | zero=>
   intro _;show (List.replicate 32 (0:Int)).getD i 0=0;rw[zt,vx,ze e];rfl
  | succ n c=>
   intro d;rw[<-zU (by omega:n<X.length),gJ,FC _ _ _ e (N3 X n (by omega)).1,c (by omega),MW,List.countP_singleton];unfold isTo;by_cases a:X[n].2=(i:Int)+1
   .rw[ze a,ze (by simpa using a)];omega
   .rw[zb a,zb (by simpa using a)];omega
 have:=b X.length zL;grind
theorem RO (p):∀j,(allL N L j).countP p=((List.range j).map λi=>(entL N L i).countP p).sum
 | 0=>rfl
 | j+1=>by rw[allL,MW,RO p j,vG,yo,Lf];simp
theorem fC.count (h:fC N f t k L B) (z):(allL N L 32).countP (isTo z)=cntA B z:=by rw[RO];refine zQ List.sum (uI λi a=>?_);rw[(h.ents (xy.1 a)).1]
theorem fC.ways (h:fC N f t k L B) (g:GI B λ_=>0) (r:RI B):oT L (entL N L):=by
 have l:=λi a=>(h.ents (i:=i) a).1;have y:=λi a=>(h.ents (i:=i) a).2.1;have q:∀i,i<32->∀e∈entL N L i,1<e.2/\e.2<=32:=λi a e c=>by rw[l i a]at c;have H:=g.to a c;have w:=g.noRoot rfl a c;omega
 have s:∀i,i<32->∀e∈entL N L i,(L.getD (e.2-1).toNat zN).k=2->(L.getD (e.2-1).toNat zN).up=i+1/\cntA B e.2=1:=λi a e c b=>by have H:=q i a e c;rw[l i a]at c;rw[y _ (by omega)]at b;have w:=g.upOf r a c b;rw[(h.ents (i:=(e.2-1).toNat) (by omega)).2.2.2.1];exact⟨w.1,w.2.1⟩
 have F:XW L (entL N L):=by
  refine⟨h.len,q,λi a=>?_,λi a e c b=>(s i a e c b).1,λi a=>?_,(y 0 (by omega)).trans g.root⟩
  .rw[l i a];unfold kW;split
   .next b=>have:=g.right a b;unfold kW at this;rw[ze b]at this;exact ((qO _).1 this).1
   .exact yh _
  .refine List.nodup_iff_count.2 λz=>?_;by_cases K:z∈subD L (entL N L i)
   .obtain⟨e,c,b,rfl⟩:=ol.1 K;have H:=(s i a e c b).2;rw[subD,List.count,List.countP_map];have w:(List.filter (λe=>decide ((L.getD (e.2-1).toNat zN).k=2)) (entL N L i)).countP ((λx=>x==e.2) ∘ λx=>x.2)<=(entL N L i).countP (isTo e.2):=(by refine zv (List.Sublist.countP_le MR) (List.countP_mono_left λx _ P=>?_);unfold isTo;simpa using P);have S:(entL N L i).countP (isTo e.2)<=cntA B e.2:=(by rw[l i a];have:=Rf (A:=B) a zAN e.2;have p:kW zAN=[]:=rfl;rw[p]at this;simp at this;omega);omega
   .rw[List.count_eq_zero_of_not_mem K];omega
 refine⟨F,λn E b=>?_⟩;let⟨I,O⟩:=QB F 33 0 [1] rfl (WI.start F) (λj Q=>yi Q (MA _));rw[y n E]at b;let⟨d,G⟩:=r.rch n E b;have C:∀d m,m<32->(B m).k=2->upI B d m=0->((m:Int)+1)∈ml L (entL N L) 33 0 [1]:=λd=>by
  induction d with
  | zero=>intro m _ _ v;obtain rfl:m=0:=v;exact I 1 (by simp)
  | succ d R=>
   intro m v o D;by_cases p:m=0
   .subst p;exact I 1 (by simp)
   .unfold upI at D;rw[zb p]at D;let⟨J,_,e,c,u⟩:=r.up m v p o;have:=O _ (R _ J (r.par v p o) D);rw[show (((upN B m:Nat):Int)+1-1).toNat=upN B m by omega]at this;refine this _ (ol.2 ⟨e,by rwa[l _ J],?_,u⟩);rwa[u,show ((m:Int)+1-1).toNat=m by omega,y m v]
 grind
theorem fC.check (h:fC N f t k L B) (o:k<=256) (g:GI B λ_=>0) (r:RI B):Zg N f t k L:=by
 let⟨e,d⟩:=h.tree o;refine⟨e,d,h.own,λi a=>?_,λi a c=>?_,h.ways g r,?_,λi a=>?_⟩
 .have:=VH (h.fld i a);omega
 .have b:=h.ents a;rw[b.2.2.2.2.2];exact g.ok i a (b.2.1.symm.trans c)
 .rw[(h.ents (i:=0) (by omega)).2.2.2.1];exact r.top
 .have b:=h.ents a;have n:iX (allL N L 32) i=(B i).l:=by unfold iX;rw[Uy _ _ a,h.count,g.cnt i a];omega
  rw[b.2.2.1,b.2.1,n];exact⟨rfl,λm=>by rw[g.zer i a m];exact Mr 0⟩
end
theorem SJ.fine {s:Fs} {c:Nat} {A:Nat->AN} {B:Nat->List Pn×(Nat->AN)} (h:SJ s B) (n:SI s c A):Cj (secE s) s.fo s.k:=by
 have f:=PE n.fine;have e:ZL (secE s)=uc s.fo:=by rw[ZL,h.head 0 (by omega),h.head 1 (by omega),h.head 2 (by omega)];rfl
 refine⟨h.mark,⟨by rw[e];exact WG f,by rwa[e,lV (WG f)],?_,λt i g l d=>(h.tree t g d).1.own.nds i l⟩,by rw[h.quot];exact Xl n.rows,λt g d=>?_⟩
 .let⟨m,j⟩:=(n.tv []).ti.ex;exact j.root
 .let⟨a,b,c⟩:=h.tree t g d;exact⟨_,a.check n.k1 b c⟩
theorem new_pk: ((List.range 16).all λj=>decide (fmtS 64 (37+j)=pk2L Zk j))=true:=rfl
theorem new_SJ {k:Nat} (q:64<=k) (p:k<=256):SJ (fs0 k) λ_=>(Zk,ZC):=by
 have b:∀n,n<k->secE (fs0 k) n=fmtS k n:=λn l=>VG k q n l;have d:(fs0 k).k=k:=rfl;refine⟨by rw[b 0 (by omega)];rfl,λi o=>?_,by rw[b 4 (by omega),Ps k 4 (by omega) (by omega)];rfl,rfl,λt m a=>?_⟩
 .rw[b _ (by omega)];rw[fmtS,zb (by omega),zb (by omega),ze (by omega),show 1+i-1=i by omega];rfl
 .let⟨f,e,g⟩:=U1;have:t=0\/t=1\/t=2\/t=3:=by omega
  rcases this with rfl|rfl|rfl|rfl
  .refine⟨(N6 q p).live λj c=>?_,Sa,KH⟩;show secE (fs0 k) ((vV 16).nd 0 j).toNat=pk2L Zk j;rw[Rv j c,yQ,b _ (by omega),Ts k _ (by omega)];exact qQ (xp.1 new_pk j (xy.2 c))
  .exact yi (f.symm.trans a) (by simp)
  .exact yi (e.symm.trans a) (by simp)
  .exact yi (g.symm.trans a) (by simp)
theorem TC (l:List DoI) (p:l.length<=1000) (o:∀x∈l,x.S.size<=300):∀k,k<=l.length->∃A,SI (fB (l.take k)) k A/\(GI A λ_=>0)/\RI A/\∃B,SJ (fB (l.take k)) B
 | 0,_=>⟨ZC,N6 (by omega) (by omega),Sa,KH,_,new_SJ (by omega) (by omega)⟩
 | k+1,n=>by let⟨A,j,h,f,B,i⟩:=TC l p o k (by omega);rw[(zU (by omega)).symm,pJ];obtain⟨m,a,b,c,d⟩:=j.doM h (by omega) _ (zv (o _ (Nj _)) (by omega));obtain⟨g,d,_⟩:=d f B i;exact⟨m,a,b,c f,g,d⟩
