import Derived.Test.YtpcedcnjofbgjaaGreatDoorKA8
set_option maxHeartbeats 0
set_option linter.all false
set_option maxRecDepth 100000
namespace Go.Proofs.YtpcedcnjofbgjaaGreatDoor
open Go.RowKit
variable {P:List Int} {f:Fo}
def expE (l:List (Int×Int)):List Int:=l.flatMap exp1
theorem Rc (a b):expE (a++b)=expE a++expE b:=by simp[expE]
theorem Tv (x):expE [x]=exp1 x:=by simp[expE]
theorem Fb {n:Nat} {out:List (Int×Int)} (h:okR n out) (p):expE (og out p).reverse=expE out.reverse++[p]:=by
 have e:exp1 (p,1)=[p]:=by simp[exp1];exact λh=>h.symm
 cases out with
 | nil=>simp[og,e,expE]
 | cons x r=>
  let⟨a,b⟩:=x;have f:=h (a,b) (by simp);simp only at f;cases c:Qx (a,b) p with
  | true=>
   rw[lO c,wk,wk,Rc,Rc,zR]
   congr 1
   rw[Tv,Tv];unfold exp1;simp only;rw[show (b+1).toNat=b.toNat+1 by omega,vG,yo]
   congr 1
   simp[yB,vS];unfold Qx at c;simp only at c;by_cases d:a=0
   .simp[d]at c |-;exact c.symm
   .simp[d]at c |-;omega
  | false=>
   rw[X5 c,wk,Rc,Tv,e]
theorem oQ : ∀(n) (l),l.length=n->(∀p,p∈l->0<=p/\p<=255)->expE (ofE l)=l
 | 0,l,a,_=>by have  :=yz.1 a;subst this;rfl
 | n+1,l,a,h=>by
  obtain⟨m,p,rfl⟩:∃m p,l=m++[p]:=⟨l.dropLast,l.getLast (by intro e;subst e;simp at a),(nI _).symm⟩;have c:m.length=n:=by simpa using a
  have d:=oQ n m c (λq b=>h q (by simp[b]));unfold ofE at d |-;rw[iU,Fb (QK n m c (λq b=>h q (by simp[b]))).1,d]
theorem K5 : ∀(l) (n),(∀x,x∈l->0<x.2)->rN (Za l++List.replicate n 0)=l
 | [],0,_=>rfl
 | [],1,_=>rfl
 | [],n+2,_=>by simp[Za,wY,rN]
 | x::l,n,h=>by
  have e:Za (x::l)++List.replicate n 0=x.1::x.2::(Za l++List.replicate n 0):=by simp[Za]
  rw[e,rN,ze (h x (by simp)),K5 l n (λy b=>h y (by simp[b]))]
theorem Wj : ∀(l) (acc),(∀x,x∈l->badX x=false)->acc.length+(expE l).length<=8->ptsR l acc=(acc++expE l,0)
 | [],acc,_,_=>by simp[ptsR,expE]
 | x::l,acc,h,a=>by
  have e:expE (x::l)=exp1 x++expE l:=by simp[expE]
  rw[e,zl]at a;rw[ptsR,zb (by simp[h x (by simp)]),zb (by omega),Wj l _ (λy b=>h y (by simp[b])) (by rw[zl];omega),e,zR]
theorem GM (i:mT P=0):∀x,x∈ofE P->badX x=false:=by
 intro x e;have h:=gV i;have a:=PJ i;have f:=(QK P.length P rfl a).1 x (by simpa[ofE]using e);have b:0<x.1->x.1+(x.2-1)∈P:=by intro d;rw[<-oQ P.length P rfl a,expE,Np];refine⟨x,e,?_⟩;rw[exp1,yd];refine⟨(x.2-1).toNat,by rw[xy];omega,?_⟩;rw[zb (by omega)];omega
 have g:0<x.1->x.1+x.2<=256:=λd=>by have:=a _ (b d);omega
 unfold badX;by_cases d:0<x.1
 .have:=g d;simp[vO,sj,zz];omega
 .simp[vO,sj,zz];omega
theorem Hw (c:mT P=0):ptsR (ofE P) []=(P,0):=by have a:=oQ P.length P rfl (PJ c);rw[Wj _ _ (GM c) (by rw[a];simpa using gV c),a];rfl
theorem UM (e:mT P=0):eI (qK (ofE P))/\kR (qK (ofE P))=(P,0):=by
 have c:rN (qK (ofE P))=ofE P:=K5 _ _ λx d=>by have:=((QK P.length P rfl (PJ e)).1) x (by simpa[ofE]using d);omega
 have b:kR (qK (ofE P))=(P,0):=by rw[kR,c,Hw e]
 exact⟨⟨RC e,by rw[b],by rw[b]⟩,b⟩
theorem Xm {k m u g s l up:Int} (R:tm k m u g s l up P=0):NA (tc k m u g s l up P)/\(tc k m u g s l up P).getD 0 0=k/\(tc k m u g s l up P).getD 1 0+(tc k m u g s l up P).getD 2 0*256=m/\(tc k m u g s l up P).getD 3 0=u/\(tc k m u g s l up P).getD 4 0=g /\
 (tc k m u g s l up P).getD 5 0+(tc k m u g s l up P).getD 6 0*256=s/\(tc k m u g s l up P).getD 7 0=l/\(tc k m u g s l up P).getD 8 0=up/\ptsN (tc k m u g s l up P)=P:=by
 have n:(tc k m u g s l up P).getD 0 0=k/\(tc k m u g s l up P).getD 1 0+(tc k m u g s l up P).getD 2 0*256=m/\(tc k m u g s l up P).getD 3 0=u/\(tc k m u g s l up P).getD 4 0=g /\
  (tc k m u g s l up P).getD 5 0+(tc k m u g s l up P).getD 6 0*256=s/\(tc k m u g s l up P).getD 7 0=l/\(tc k m u g s l up P).getD 8 0=up/\eI (midB (tc k m u g s l up P))/\ptsN (tc k m u g s l up P)=P:=by
  by_cases j:k=0
  .subst j;unfold tm at R;rw[ze rfl]at R;by_cases w:m=0/\u=0/\g=0/\s=0/\l=0/\up=0/\P.length=0
   .obtain⟨rfl,rfl,rfl,rfl,rfl,rfl,O⟩:=w;obtain rfl:P=[]:=yz.1 O;have e:tc 0 0 0 0 0 0 0 []=List.replicate 32 0:=(by rw[tc,ze rfl]);rw[e];have d:midB (List.replicate 32 0)=qK (ofE []):=rfl;have b:=UM (P:=[]) rfl;refine⟨rfl,rfl,rfl,rfl,rfl,rfl,rfl,by rw[d];exact b.1,by rw[ptsN,d,b.2]⟩
   .rw[zb w]at R;cases R
  .let⟨E,G,L,M,D,A,x,a,z⟩:=Pf R j;have B:=RC a;have e:tc k m u g s l up P=[k,m%256,m / 256,u,g,s%256,s / 256,l,up]++qK (ofE P)++List.replicate 7 0:=(by rw[tc,zb j]);have d:midB (tc k m u g s l up P)=qK (ofE P):=(by rw[e];rw[midB,zR,vC (by simp),yG (by simp),yJ,yC (by omega),zo (by omega)]);have b:=UM a;have K:(tc k m u g s l up P).getD 1 0=m%256:=(by rw[e];rfl);have C:(tc k m u g s l up P).getD 2 0=m / 256:=(by rw[e];rfl);have N:(tc k m u g s l up P).getD 5 0=s%256:=(by rw[e];rfl);have y:(tc k m u g s l up P).getD 6 0=s / 256:=(by rw[e];rfl);refine⟨(by rw[e];rfl),by rw[K,C];omega,(by rw[e];rfl),(by rw[e];rfl),by rw[N,y];omega,(by rw[e];rfl),(by rw[e];rfl),by rw[d];exact b.1,by rw[ptsN,d,b.2]⟩
 let⟨f,r,t,v,h,i,p,q,o⟩:=n;refine⟨⟨sr R,q,?_,?_⟩,f,r,t,v,h,i,p,o⟩
 .rwa[f,r,t,v,h,i,p,o]
 .rw[f,r,t,v,h,i,p,o]
-- NOTED
theorem lV {g:Fo} (h:encF f=encF g):fD f=fD g:=by
 have o:∀k j,k<4->j<48->nu f k j=nu g k j:=λk j a e=>by have n:=uh f k j a e;rw[h,uh g k j a e]at n;exact (tZ n).symm
 have m:∀k i,k<4->i<16->f.nd k i=g.nd k i:=λk i a d=>by have:=o k i a (by omega);unfold nu at this;rw[ze d,ze d]at this;injection this
 have q:∀k,k<4->encT f k=encT g k:=λk a=>by
  apply yV;intro j;by_cases e:j<48
  .rw[mu f k j e,mu g k j e,o k j a e]
  .rw[zY (by rw[sf];omega),zY (by rw[sf];omega)]
 have b:∀k,k<4->badN f k=badN g k:=λk a=>by
  unfold badN;rw[nJ,xO,xO];constructor
  .rintro ⟨i,d,l⟩;exact⟨i,d,by rwa[<-m k i a (xy.1 d)]⟩
  .rintro ⟨i,d,l⟩;exact⟨i,d,by rwa[m k i a (xy.1 d)]⟩
 have c:∀k,k<4->badT f k=badT g k:=λk a=>by unfold badT uB Vp;rw[m k 0 a (by omega),q k a]
 unfold fD;rw[b 0 (by omega),b 1 (by omega),b 2 (by omega),b 3 (by omega),c 0 (by omega),c 1 (by omega),c 2 (by omega),c 3 (by omega)]
theorem ER (h:fD f=0):U8s (uc f):=λx a=>by
 rcases yN.1 a with a|a
 .obtain⟨m,b,rfl⟩:=yd.1 a;have:=xy.1 b;exact Qh h _ _ (by omega) (by omega)
 .obtain⟨m,b,rfl⟩:=yd.1 a;have:=OP (f.hs (m / 32)) (m%32);omega
theorem WG (h:fD f=0):encF (foB (uc f))=encF f:=by
 apply yV;intro n;by_cases e:n<192
 .obtain⟨k,j,c,d,rfl⟩:∃a j,a<4/\j<48/\n=a*48+j:=⟨n / 48,n%48,by omega,by omega,by omega⟩;rw[uh _ k j c d,uh _ k j c d];unfold nu;by_cases b:j<16
  .rw[ze b,ze b];show some (Value.int .i64 ((uc f).getD (k*16+j) 0))=_;rw[zt];rw[uc,zV (by rw[QR];omega),Yz f k j c b];rfl
  .rw[zb b,zb b,O1 (ER h),zt];rw[uc,zx (by rw[QR];omega),QR,show 64+k*32+(j-16)-64=k*32+(j-16) by omega,Yy f k (j-16) c (by omega)];rfl
 .rw[zY (by rw[vX];omega),zY (by rw[vX];omega)]
theorem ZT (l) (i) (hi) (r):(Zt l++r).getD (3*i) 0=l[i].1/\(Zt l++r).getD (3*i+1) 0=l[i].2%256/\(Zt l++r).getD (3*i+2) 0=l[i].2 / 256:=by
 have e:Zt l=Zt (l.take i)++(l[i].1::l[i].2%256::l[i].2 / 256::Zt (l.drop (i+1))):=by
  conv=>lhs;rw[<-xr i l,yR hi,QN]
  rfl
 have a:(Zt (l.take i)).length=3*i:=by rw[Su,Ni];omega
 rw[e,zR];simp[zt];refine⟨?_,?_,?_⟩
 .rw[zx (by omega),a,show 3*i-3*i=0 by omega];rfl
 .rw[zx (by omega),a,show 3*i+1-3*i=1 by omega];rfl
 .rw[zx (by omega),a,show 3*i+2-3*i=2 by omega];rfl
theorem ka (l):jq (RK l.length l)=l:=by
 unfold jq;have f:(RK l.length l).getD 0 0=l.length:=rfl;rw[f,yQ];apply oL (by simp);intro i g e;simp[uv,MV];let⟨a,b,c⟩:=ZT l i e (List.replicate (63-l.length*3) 0);unfold rowB RK;have d:∀(L) k,((l.length:Int)::L).getD (k+1) 0=L.getD k 0:=λL k=>by simp
 rw[d,show 3*i+2=(3*i+1)+1 by omega,d,show 3*i+3=(3*i+2)+1 by omega,d,a,b,c];have:l[i].2%256+l[i].2 / 256*256=l[i].2:=by omega
 rw[this]
theorem Xl {l:List (Int×Int)} (b:ZQ l=0):mn (RK l.length l):=by have a:=(gW b).1;refine⟨Rt _ _ a,?_,by rwa[ka],by rw[ka]⟩;show (l.length:Int)<=20;omega
