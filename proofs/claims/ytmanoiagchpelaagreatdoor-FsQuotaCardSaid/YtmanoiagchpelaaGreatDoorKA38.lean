import Derived.Test.YtmanoiagchpelaaGreatDoorKA35
import Derived.Test.YtmanoiagchpelaaGreatDoorKA37
set_option maxHeartbeats 0
set_option linter.all false
set_option maxRecDepth 100000
namespace Go.Proofs.YtmanoiagchpelaaGreatDoor
open Go.RowKit
variable {A A':Nat->AN} {D b g:List Int} {L:List Wr} {T:List Nat} {X:Pn} {a:AN} {e:En} {f:Fo} {gg k m sq u:Int} {i j kd n:Nat} {l:List En} {o:Ow} {ow:Int->Option (Nat×Nat)} {pf:Nat->Nat->Int} {put:List (Int×List Int)} {x:Tx}
section
variable {x : Tx} {s : Fs} {T : List Nat}
def pk2 (x:Tx) (j:Nat):List Int:=rU (x.nodes.getD (2*j) zN)++rU (x.nodes.getD (2*j+1) zN)
theorem PG (h:mA X) (l:∀p∈X.P,0<=p/\p<256):ZC X=0:=by
 have e:=fld8 h;rcases h with rfl|⟨i,f,k,g,j,d⟩
 .decide
 .unfold ZC vL;have c:X.P.any badP=false:=by rw[tq];intro p a;have:=l p a;unfold badP;simp;omega
  have b:tY X.P=0:=by unfold tY;rw[zb (by omega),c];rfl
  rw[zb (by omega),zb (by omega),zb (by omega),zb (by omega),zb (by simpa using b),zb (by omega)]
theorem TI.ptIn (h:TI x s T) (l:i<32) {p:Int} (m:p∈(x.nodes.getD i zN).P):p=0\/37<=p/\(p<s.k\/256<p/\p<=x.fake/\(getZ x.put p).isSome=true):=by
 obtain⟨b,j⟩:=vg.1 m;have e:x.pf i b=p:=(ze l).trans (by rw[zi,j];rfl);have d:=h.pos (i:=i) (b:=b) (zr l);have a:=h.pp i b l;rw[e]at d a;by_cases f:256<p
 .exact d.imp id fun c=>⟨c.1,c.2.imp id fun g=>⟨f,g.2,a f⟩⟩
 .omega
theorem TI.k256 (h:TI x s T):s.k<=256:=by obtain⟨b,a⟩:=h.ex;exact a.k1
theorem TI.right (h:TI x s T) (c:x.full=false) (b:i<32):ZC (x.nodes.getD i zN)=0:=
 PG (h.nd i b) fun p a=>by have:=h.ptIn b a;have:=h.fkFull c;have:=h.k256;omega
theorem pk2_ok (h:TI x s T) (d:x.full=false) (e:j<16):(pk2 x j).length=64/\un (pk2 x j):=by
 have b:=h.right d (i:=2*j) (by omega);have c:=h.right d (i:=2*j+1) (by omega);unfold pk2 rU;refine⟨by rw[zm,VK b,VK c],fun y a=>?_⟩;rcases yo.1 a with a|a
 .exact XE b y a
 .exact XE c y a
theorem TI.ndInj (h:TI x s T) (g:i<16) (k:j<16) (l:x.fo.nd 0 i=x.fo.nd 0 j):i=j:=by obtain⟨f,a⟩:=h.ex;have c:=a.blk 32 i (zu ⟨rfl,g⟩) (a.nz i g);have b:=a.blk 32 j (zu ⟨rfl,k⟩) (a.nz j k);have d:x.pf 32 i=x.fo.nd 0 i:=rfl;have e:x.pf 32 j=x.fo.nd 0 j:=rfl;rw[d,l]at c;rw[e]at b;rw[c]at b;simpa using b
theorem TI.ndBlk (h:TI x s T) {b:Nat} (l:i<32) (k:j<16):x.pf i b≠x.fo.nd 0 j:=fun c=>by obtain⟨g,a⟩:=h.ex;have d:=a.blk 32 j (zu ⟨rfl,k⟩) (a.nz j k);have f:x.pf 32 j=x.fo.nd 0 j:=rfl;have e:=a.blk i b (zr l) (by rw[c];exact h.nz k);rw[c]at e;rw[f,e]at d;simp at d;omega
theorem TI.packs (h:TI x s T) (B:x.full=false) (C:∀j,j<16->sK x j=true->ta x.fo 4 (x.fo.nd 0 j).toNat=false) (A:TJ x.pf x.gone x.ow x.put s.k T ow):∀j,j<=16 ->
 TJ x.pf x.gone x.ow (rF x j) s.k T ow/\(∀p,(∀j',j'<j->sK x j'=true->x.fo.nd 0 j'≠p)->getZ (rF x j) p=getZ x.put p)/\(∀j',j'<j->sK x j'=true->getZ (rF x j) (x.fo.nd 0 j')=some (pk2 x j')) /\
 (∀y∈rF x j,y∈x.put\/∃j',j'<j/\sK x j'=true/\y.1=x.fo.nd 0 j')
 | 0,_=>⟨A,fun _ _=>rfl,fun j' d=>by omega,fun y e=>zr e⟩
 | j+1,w=>by
  obtain⟨t,u,q,r⟩:=h.packs B C A j (by omega);unfold rF;split
  .rename_i f;have n:=A.blk 32 j (zu ⟨rfl,by omega⟩) (A.nz j (by omega));have v:x.pf 32 j=x.fo.nd 0 j:=rfl;rw[v]at n;refine⟨t.put' (by rw[n];rfl) (fun _=>C j (by omega) f) (fun i b c=>by rw[n]at c;injection c with c;injection c with c;omega) (pk2_ok h B (by omega)),fun p l=>?_,fun j' d a=>?_,fun y e=>?_⟩
   .rw[mR _ (yA (l j (by omega) f))];exact u p fun j' d a=>l j' (by omega) a
   .by_cases c:j'=j
    .subst c;exact Zx _ _ _
    .rw[mR _ (fun z=>c (h.ndInj (by omega) (by omega) z))];exact q j' (by omega) a
   .rcases mt e with rfl|e
    .exact zu ⟨j,by omega,f,rfl⟩
    .rcases r y e with g|⟨j',g,m,o⟩
     .exact zr g
     .exact zu ⟨j',by omega,m,o⟩
  .rename_i f;refine⟨t,fun p l=>u p fun j' d a=>l j' (by omega) a,fun j' d a=>?_,fun y e=>?_⟩
   .by_cases c:j'=j
    .subst c;exact zY a f
    .exact q j' (by omega) a
   .rcases r y e with g|⟨j',g,m,o⟩
    .exact zr g
    .exact zu ⟨j',by omega,m,o⟩
theorem TJ.gones {k:Nat} (h:TJ pf g o put k T ow):
 TJ pf [] {o with fo:=hasF o.fo (gonS (o.fo.hs 0) g)} (gonP put g) k T fun z=>if z∈g then none else ow z:=by
 have s:ow 0=none:=by
  cases t:ow 0 with
  | none=>rfl
  | some a=>have:=h.lt t;omega
 refine⟨h.k1,h.fk,h.root,fun i b r q=>?_,h.nz,fun p e=>zY e (yK),fun p a e=>?_,fun p i b e=>?_,fun n v=>?_,WS h.rise,fun y m=>?_,fun y m=>h.pd y (fD m)⟩
 .have j:=h.blk i b r q;have f:=h.gn (pf i b);unfold vsl at r
  grind
 .have:=h.rg p a
  grind
 .have j:=h.sl p i b;have f:=h.gn p
  grind
 .have j:=h.hs n v;show gonS (o.fo.hs 0) g n=true↔_;rw[Qd,j];have f:∀p∈g,p≠0->37<=p:=fun p e d=>(h.lt (h.gn p e d)).1;constructor
  .rintro ⟨c,u⟩;rw[zb]
   .exact c
   .intro l;exact u _ l (yz n)
  .intro c;split at c
   .cases c
   .rename_i l;refine⟨c,fun p e w=>l ?_⟩;by_cases d:p=0
    .subst d;have:n=0:=(by simpa using w.symm);subst this;rw[show ((0:Nat):Int)=0 from rfl,s]at c;cases c
    .have:=f p e d;rw[show (n:Int)=p by omega];exact e
 .have j:=h.pk y (fD m);have f:y.1∉g:=fun l=>by have c:=mQ (WS (g:=g) h.rise) (show (y.1,y.2)∈gonP put g from m);rw[Z7,ze l]at c;cases c
  simp only[Jo,f,vX];exact j
end
section
variable {α : Type}
theorem JX : ∀{p t} {z:Int×α},z∈uR t p->z∈p\/z∈t
 | [],_,_,h=>zu h
 | y::r,t,z,h=>by
  rcases JX (p:=r) (t:=putZ t y.1 y.2) h with h|h
  .exact zr (yZ _ h)
  .rcases mt h with h|h
   .exact zr (h▸xn)
   .exact zu h
theorem NH {l:List (Int×α)} (h:so l):(l.map (·.1)).Nodup:=
 List.Pairwise.imp (R:=fun a b=>a<b) (fun {a b} c=>by omega) (xW.2 h)
theorem Ro {l:List (Int×α)} (h:so l) (K:List Int) (d:∀z∈l,z.1∈K):l.length<=K.length:=by
 have a:=jS (NH h) (ys:=K) fun x b=>by obtain⟨z,c,rfl⟩:=zU.1 b;exact d z c
 simpa using a
end
theorem Un (s) (b) {put:List (Int×List Int)} (h:so put):∀j,so (dfK s b put j)
 | 0=>h
 | j+1=>by
  unfold dfK;split
  .exact Un s b h j
  .exact ZZ _ _ (Un s b h j)
theorem gC (s) (b) {put:List (Int×List Int)} {z:Int×List Int}:∀j,z∈dfK s b put j->(∃i,i<j/\z=(((1+i:Nat):Int),sec b i))\/z∈put
 | 0,h=>zu h
 | j+1,h=>by
  have a:=gC s b (put:=put) (z:=z) j;unfold dfK at h;split at h
  .rcases a h with⟨i,c,e⟩|h
   .exact zr ⟨i,by omega,e⟩
   .exact zu h
  .rcases mt h with h|h
   .exact zr ⟨j,by omega,h⟩
   .rcases a h with⟨i,c,e⟩|h
    .exact zr ⟨i,by omega,e⟩
    .exact zu h
theorem jo (s) (b) {put:List (Int×List Int)} {k:Int}:∀j:Nat,(k<1\/j<k)->getZ (dfK s b put j) k=getZ put k
 | 0,_=>rfl
 | j+1,h=>by
  unfold dfK;split
  .exact jo s b j (by omega)
  .rw[mR _ (by omega)];exact jo s b j (by omega)
theorem Om (x) (s) (h:so x.put):so (tE x s):=by
 unfold tE dfQ;split
 .exact Un s _ h 3
 .exact ZZ _ _ (Un s _ h 3)
theorem R7 (x) (s) {z:Int×List Int} (h:z∈tE x s):z=(4,sA x.rows.length x.rows)\/(∃i,i<3/\z=(((1+i:Nat):Int),sec (uH x.fo) i))\/z∈x.put:=by
 unfold tE dfQ at h;split at h
 .exact zu (gC s _ 3 h)
 .rcases mt h with h|h
  .exact zr h
  .exact zu (gC s _ 3 h)
theorem R8 (x) (s) (h:k<1\/4<k):getZ (tE x s) k=getZ x.put k:=by
 unfold tE dfQ;split
 .exact jo s _ 3 (by omega)
 .rw[mR _ (by omega)];exact jo s _ 3 (by omega)
theorem NW (h:∀a,a<4->badN f a=false):(uH f).length=192/\un (uH f):=by
 refine⟨by simp[uH,Ln,Ls],fun y b=>?_⟩;unfold uH at b;rcases yo.1 b with b|b
 .unfold Ln at b;obtain⟨m,d,rfl⟩:=zU.1 b;have d:=yH.1 d;have c:=h (m / 16) (by omega);unfold badN at c;rw[tq]at c;have e:=c (m%16) (yH.2 (by omega));unfold ng at e;simp at e;omega
 .unfold Ls at b;obtain⟨m,_,rfl⟩:=zU.1 b;have:=Vi (f.hs (m / 32)) (m%32);omega
theorem gU {l:List Int} (h:un l) (n):un (sec l n):=fun y a=>h y (wd (yY a))
theorem NT {l:List (Int×Int)} (h:rd l=0):(sA l.length l).length=64/\un (sA l.length l):=by
 have b:=ZY h;refine⟨VJ _ _ b.1,fun y a=>?_⟩;have c:=(iW l).1 b.2;unfold sA at a;rcases yD.1 a with rfl|a
 .have:=b.1;omega
 .rcases yo.1 a with a|a
  .unfold mB at a;obtain⟨z,d,a⟩:=vA.1 a;have:=c.1 z d;simp at a;rcases a with rfl|rfl|rfl<;>omega
  .have:=xV a;omega
theorem KC {k m:Nat} (o:m<k):∀{l} {st},On st k->(∀x∈l,RbOk k x)->(∀x∈l,x.2.2=false->x.1≠m)->sec (runE st l).N m=sec st.N m
 | [],_,_,_,_=>rfl
 | x::l,st,h,b,d=>by
  have g:=KC o (l:=l) (h.do (b x xn)) (fun y a=>b y (yZ _ a)) (fun y a=>d y (yZ _ a));refine g.trans ?_;have c:=b x xn;have i:=d x xn;unfold doE;split
  .rw[Zg h]
  .rename_i e;rcases c with c|⟨j,f⟩
   .exact zY c e
   .rw[ZQ h];exact Yg h.n j o f (yA (i (by simpa using e)))
theorem KW {L:List Wr} {x:Rb}:∀{n},x∈oT L n->∃j,j<n/\x=(6+j,(L[j]?.getD (0,[])).2,false)
 | 0,h=>by simp[oT]at h
 | n+1,h=>by
  unfold oT at h;rcases yo.1 h with h|h
  .obtain⟨j,b,a⟩:=KW h;exact⟨j,by omega,a⟩
  .simp at h;exact⟨n,by omega,h⟩
theorem YU (e:64<=kd) (sq) (f:L.length<=30) (d:∀x∈L,x.2.length=64):∀x∈opsB sq L,RbOk kd x/\(x.2.2=false->5<=x.1/\x.1<37):=by
 intro x a;unfold opsB opsA at a;simp only[yo,yD,yK,qH]at a;have b:RbOk kd barR/\(barR.2.2=false->5<=barR.1/\barR.1<37):=⟨zr rfl,fun h=>by simp[barR]at h⟩;rcases a with ((rfl|rfl|rfl)|a)|rfl|rfl|rfl|rfl|rfl
 .exact b
 .exact⟨zu ⟨by show 5<kd;omega,kP⟩,fun _=>by show 5<=5/\5<37;omega⟩
 .exact b
 .obtain⟨j,c,rfl⟩:=KW a;refine⟨zu ⟨by show 6+j<kd;omega,?_⟩,fun _=>by show 5<=6+j/\6+j<37;omega⟩;show ((L[j]?.getD (0,[])).2).length=64;rw[zh c];exact d _ (zx c)
 .exact⟨zu ⟨by show 6+L.length<kd;omega,kP⟩,fun _=>by show 5<=6+L.length/\6+L.length<37;omega⟩
 .exact b
 .exact⟨zu ⟨by show 5<kd;omega,VN _ _ _⟩,fun _=>by show 5<=5/\5<37;omega⟩
 .exact⟨zu ⟨by show 6+L.length<kd;omega,Ky _ _⟩,fun _=>by show 5<=6+L.length/\6+L.length<37;omega⟩
 .exact b
theorem je: un zS:=UQ 64
theorem UC {l:List Int} (h:un l) (i) {x:Int} (b:0<=x/\x<=255):un (l.set i x):=fun y a=>by
 rcases vv a with a|a
 .exact h y a
 .rw[a];exact b
theorem Nc {N:List Int} (h:un N) (b:un D) (n):un (putS N n D):=fun x a=>by
 unfold putS at a;rcases yo.1 a with a|a
 .exact h x (yY a)
 .rcases yo.1 a with a|a
  .exact b x a
  .exact h x (wd a)
theorem J7 {sq:Int} {L:List Wr} (a:0<=sq/\sq<4294967296) (c:L.length<=30) (b:∀x∈L,x.1<256):∀k,un (mg sq L k)
 | 0=>UR (UC (UC je 0 (by omega)) 5 (by omega)) (gM sq a.1 a.2)
 | k+1=>by
  refine UC (J7 a c b k) (6+k) ?_;cases h:L[k]? with
  | none=>exact⟨by show (0:Int)<=((0:Nat):Int);omega,by show ((0:Nat):Int)<=255;omega⟩
  | some x=>
   have:=b x (xU h);exact⟨by show (0:Int)<=((x.1:Nat):Int);omega,by show ((x.1:Nat):Int)<=255;omega⟩
theorem Nz {sm:Int} (a:0<=sq/\sq<4294967296) (b:0<=sm/\sm<4294967296):un (qU sq sm):=
 UR (UR (UC je 0 (by omega)) (gM sq a.1 a.2)) (gM sm b.1 b.2)
theorem Xz {k:Nat}:∀{l} {st},On st k->(∀x∈l,RbOk k x/\(x.2.2=false->un x.2.1))->un st.N->un (runE st l).N
 | [],_,_,_,a=>a
 | x::l,st,h,b,a=>by
  refine Xz (l:=l) (h.do (b x xn).1) (fun y c=>b y (yZ _ c)) ?_;unfold doE;split
  .rw[Zg h];exact a
  .rename_i d;rw[ZQ h];exact Nc a ((b x xn).2 (by simpa using d)) _
theorem P4 (l:64<=kd) (m:kd<=256) (n:0<=sq/\sq<4294967295) (k:L.length<=30) (i:∀x∈L,WrOk kd x/\un x.2):∀x∈opsC sq L,RbOk kd x/\(x.2.2=false->un x.2.1):=by
 intro x a;have c:RbOk kd barR/\(barR.2.2=false->un barR.2.1):=⟨zr rfl,fun h=>by simp[barR]at h⟩;have g:∀y∈L,y.1<256:=fun y b=>by have:=(i y b).1.1;omega
 unfold opsC at a;split at a
 .rw[xt]at a;subst a;exact c
 .unfold opsJ at a;rcases yo.1 a with a|a
  .refine⟨(YU l (sq+1) k (fun y b=>(i y b).1.2) x a).1,fun _=>?_⟩;unfold opsB opsA at a;simp only[yo,yD,yK,qH]at a;rcases a with ((rfl|rfl|rfl)|a)|rfl|rfl|rfl|rfl|rfl
   .exact fun y b=>zY b yK
   .exact je
   .exact fun y b=>zY b yK
   .obtain⟨j,d,rfl⟩:=KW a;show un ((L[j]?.getD (0,[])).2);rw[zh d];exact (i _ (zx d)).2
   .exact je
   .exact fun y b=>zY b yK
   .exact J7 (by omega) k g _
   .exact Nz (by omega) (YL L)
   .exact fun y b=>zY b yK
  .have e:qA (emit L) 0=emit (tt L 0):=(by unfold qA;rw[jU];rfl);rw[e]at a;unfold emit at a;obtain⟨y,b,rfl⟩:=zU.1 a;have d:=lD (h:=0) (by omega) (fun y b=>(i y b).1) y b;have f:=VM _ _ _ ((Zn L 0 (by omega) y).1 b).2;exact⟨zu d,fun _=>(i _ f).2⟩
theorem Wd (w:64<=kd) (v:kd<=256) (sq) (y:L.length<=30) (u:∀x∈L,WrOk kd x) {st:Dk} (h:On st kd):
 On (runE st (opsC sq L)) kd/\(runE st (opsC sq L)).W.length<=st.W.length+70/\∀m,m<kd->(m<5\/37<=m)->sec (runE st (opsC sq L)).N m=(sC L m).getD (sec st.N m):=by
 unfold opsC;split
 .rename_i f;subst f;refine⟨h.run fun x a=>?_,?_,fun m c _=>?_⟩
  .simp at a;subst a;exact zr rfl
  .have:=fX st [barR];simp at this;omega
  .refine (KC c h (fun x a=>?_) (fun x a=>?_)).trans rfl
   .simp at a;subst a;exact zr rfl
   .simp at a;subst a;intro k;simp[barR]at k
 .have d:=YU w (sq+1) y fun x a=>(u x a).2;have b:=h.run (l:=opsB (sq+1) L) fun x a=>(d x a).1;have j:qA (emit L) 0=emit (tt L 0):=by unfold qA;rw[jU];rfl
  have e:=lD (h:=0) (by omega) u;unfold opsJ;rw[ZT,j];refine⟨b.run (ZM e),?_,fun m c r=>?_⟩
  .have s:=fX (runE st (opsB (sq+1) L)) (emit (tt L 0));have t:=fX st (opsB (sq+1) L);have o:=Z1 L 0 (by omega);have q:(emit (tt L 0)).length=(tt L 0).length:=yp ..;have p:(opsB (sq+1) L).length=L.length+8:=(by unfold opsB opsA;simp[UB]);omega
  .have i:=KC c h (fun x a=>(d x a).1) fun x a g=>(by have:=(d x a).2 g;omega);rw[(ZS b e).1,UO v (by omega) b.n u,KQ b.n u m c,i]
theorem Mc {l:List (Int×List Int)} (h:so l) (o:∀y∈l,0<=y.1) (m):sC (wrOf l) m=getZ l m:=by
 have n:((wrOf l).map fun x=>x.1).Nodup:=by unfold wrOf;rw[vr];refine xW.2 (sX (R:=fun (a b:Int×List Int)=>a.1<b.1) (fun {a b} f i g=>?_) h);have:=o a f;have:=o b i;show a.1.toNat≠b.1.toNat;omega
 cases c:getZ l (m:Int) with
 | some D=>
  exact J1 n (x:=(m,D)) (zU.2 ⟨_,nu c,by simp⟩)
 | none=>
  rw[K9];intro x k j;obtain⟨y,d,rfl⟩:=zU.1 k;have:=o y d;have e:=mQ h (show (y.1,y.2)∈l from d);rw[show y.1=(m:Int) by simp at j;omega,c]at e;cases e
structure SI (s:Fs) (c:Nat) (A:Nat->AN):Prop where
 tv:∀T,TV (tx0 s) s 0 T A
 rows:rd s.rows=0
 rise:so s.todo
 td:s.todo.length<=30
 tk:∀y∈s.todo,(1<=y.1/\y.1<=4\/37<=y.1)/\y.1<(s.k:Int)/\y.2.length=64/\un y.2
 k0:64<=s.k
 on:On s.dk s.k
 bn:un s.dk.N
 held:s.held=[]
 sq:0<=s.sq/\s.sq<=c
 W:s.dk.W.length<=70*c
 cc:c<=2000
section
variable {s : Fs} {c : Nat} {A : Nat->AN}
theorem SI.k1 (h:SI s c A):s.k<=256:=(h.tv []).ti.k256
theorem SI.wrs (h:SI s c A):(wrOf s.todo).length<=30/\∀x∈wrOf s.todo,WrOk s.k x/\(x.1<5\/37<=x.1):=by refine⟨by unfold wrOf;rw[yp];exact h.td,fun x d=>?_⟩;obtain⟨y,a,rfl⟩:=zU.1 d;obtain⟨f,e,b,_⟩:=h.tk y a;exact⟨⟨by show y.1.toNat<_;omega,b⟩,by show y.1.toNat<5\/37<=y.1.toNat;omega⟩
theorem SI.pos (h:SI s c A):∀y∈s.todo,0<=y.1:=fun y a=>by have:=(h.tk y a).1;omega
theorem SI.sec (h:SI s c A):jt s:=fun p b d=>by
 unfold secE;cases a:getZ s.todo (p:Int) with
 | some D=>exact⟨(h.tk _ (nu a)).2.2.1,(h.tk _ (nu a)).2.2.2⟩
 | none=>exact⟨mI h.on.n b,gU h.bn p⟩
theorem SI.syncOk (h:SI s c A) (l:c<=1000):kZ s:=by
 have d:=h.wrs;have k:=h.k1;refine⟨⟨fun x f=>⟨(d.2 x f).2,(d.2 x f).1.1⟩,?_,d.1⟩,fun y e=>?_,by have:=h.sq;omega,by have:=h.W;omega⟩
 .unfold wrOf;rw[vr];refine xW.2 (sX (R:=fun (a b:Int×List Int)=>a.1<b.1) (fun {a b} g j i=>?_) h.rise);have:=h.pos a g;have:=h.pos b j;show a.1.toNat≠b.1.toNat;omega
 .have:=h.pos y e;have:=(h.tk y e).2.1;omega
theorem SI.syncE (h:SI s c A) {p:Nat} (e:p<s.k) (f:p<5\/37<=p):secE (mE s) p=secE s p:=by have a:=h.wrs;have b:=(Wd h.k0 h.k1 s.sq a.1 (fun x d=>(a.2 x d).1) h.on).2.2 p e f;rw[Mc h.rise h.pos]at b;exact b
theorem YF {z:Tx} {s s':Fs} (h:TI x s T) (f:z.nodes=x.nodes) (g:∀i b,i<32->x.pf i b≠0->secT z s' (x.pf i b).toNat=secT x s (x.pf i b).toNat):∀j,j<32->vw z s' j=vw x s j/\∀b,blk z s' j b=blk x s j b:=fun j a=>by
 have this:∀b,blk z s' j b=blk x s j b:=fun b=>by
  unfold blk;have d:z.pf j b=x.pf j b:=by unfold Tx.pf;rw[ze a,ze a,f]
  rw[d];unfold tT;split
  .rfl
  .rename_i e;exact g j b a e
 have c:z.dirD s' j=x.dirD s j:=by rw[lX _ _ a,lX _ _ a,f,show blk z s' j=blk x s j from funext this]
 refine⟨?_,this⟩;unfold vw;rw[f,c]
theorem SI.sync (h:SI s c A) (J:c<2000):SI (mE s) (c+1) A:=by
 have e:=h.wrs;obtain⟨E,I,G⟩:=Wd h.k0 h.k1 s.sq e.1 (fun x f=>(e.2 x f).1) h.on;refine⟨fun T=>?_,h.rows,List.Pairwise.nil,ye _,fun y k=>zY k yK,h.k0,E,?_,h.held,?_,by have:=h.W;show (runE s.dk (opsC s.sq (wrOf s.todo))).W.length<=_;omega,J⟩
 .have d:=h.tv T;obtain⟨⟨C,F⟩,w,p,B,m,n,t⟩:=d.ti;have l:=YF (z:=tx0 (mE s)) (s':=mE s) d.ti rfl fun i b D o=>by have H:=(d.ti.pos (i:=i) (b:=b) (zr D)).resolve_left o;have q:(tx0 s).fake=256:=rfl;exact h.syncE (by omega) (by omega)
  exact⟨⟨⟨C,F⟩,w,p,B,m,n,t⟩,d.cap,fun j a=>(l j a).1.trans (d.v j a),fun j a b r u g=>by rw[(l j a).2];exact d.z j a b r u g⟩
 .refine Xz h.on (P4 h.k0 h.k1 (by have:=h.sq;omega) e.1 fun x f=>⟨(e.2 x f).1,?_⟩) h.bn;obtain⟨y,k,rfl⟩:=zU.1 f;exact (h.tk y k).2.2.2
 .have:=h.sq;show 0<=seqC _ _/\seqC _ _<=_;unfold seqC;split<;>omega
theorem flat8 (f:Nat->Nat->Int):∀T:List Nat,(T.flatMap fun i=>(List.range 8).map (f i)).length=8*T.length
 | []=>rfl
 | a::T=>by rw[xo,zm,flat8 f T,yp,tj,yx];omega
theorem O6 (x):((List.range 16).filter (sK x)).length<=x.dirty.length:=by
 have h:((List.range 16).filter (sK x)).Nodup:=List.nodup_range.filter _;have i:(((List.range 16).filter (sK x)).map fun j:Nat=>if (getZ x.dirty (2*j+1)).isSome=true then 2*(j:Int)+1 else 2*j+2).Nodup:=by refine xW.2 (h.imp fun {a b} k=>?_);split<;>split<;>omega
 have g:=jS i (ys:=x.dirty.map (·.1)) fun z l=>by
  obtain⟨j,f,rfl⟩:=zU.1 l;have e:=(vu.1 f).2;unfold sK at e;rw[r9]at e;split
  .rename_i c;obtain⟨v,d⟩:=vi.1 c;exact zU.2 ⟨_,nu d,rfl⟩
  .rename_i c;obtain⟨v,d⟩:=vi.1 (e.resolve_left c);exact zU.2 ⟨_,nu d,rfl⟩
 simpa using g
theorem TV.ends (h:TV x s n T A') (hf:(vP s.k x 16).full=false):
 (∃ow,TJ (endT s.k x).pf [] ⟨(endT s.k x).fo,false,256⟩ (endT s.k x).put s.k T ow)/\(endT s.k x).nodes=x.nodes/\(endT s.k x).rows=x.rows/\(∀a,1<=a->(endT s.k x).fo.nd a=x.fo.nd a/\(endT s.k x).fo.hs a=x.fo.hs a) /\
  (∀i b,i<32->x.pf i b≠0->getZ (endT s.k x).put (x.pf i b)=getZ x.put (x.pf i b)) /\
  (∀j,j<16->sK x j=true->getZ (endT s.k x).put ((endT s.k x).fo.nd 0 j)=some (pk2 x j)) /\
  (∀j,j<16->sK x j=false->(endT s.k x).fo.nd 0 j=x.fo.nd 0 j/\getZ (endT s.k x).put (x.fo.nd 0 j)=none) /\
  (endT s.k x).put.length<=8*T.length+x.dirty.length:=by
 obtain⟨f,o2,o3,o4,o5,o6,o7,S,Q⟩:=h.ti.owns 16 zL;obtain⟨J,q2,q3,q4,q5⟩:=VT s.k x 16;have N:=f.fkFull hf;have g:∀j,sK (vP s.k x 16) j=sK x j:=fun j=>by unfold sK;rw[q2]
 have K:∀j,pk2 (vP s.k x 16) j=pk2 x j:=fun j=>by unfold pk2;rw[J]
 obtain⟨ow,v⟩:=f.ex;have hk:=h.ti.k256;have hu:∀j,j<16->sK (vP s.k x 16) j=true->ta (vP s.k x 16).fo 4 ((vP s.k x 16).fo.nd 0 j).toNat=false:=fun j c l=>by have:=f.ndPos c;rw[o3];exact o4 j c ((g j).symm.trans l) (by omega)
 obtain⟨U,P,X,Y⟩:=f.packs hf hu v 16 zL;have D:=U.gones;have ho:(vP s.k x 16).ow=⟨(vP s.k x 16).fo,false,256⟩:=by unfold Tx.ow;rw[hf,N]
 rw[ho]at D;have hz:endT s.k x={vP s.k x 16 with fo:=hasF (vP s.k x 16).fo (gonS ((vP s.k x 16).fo.hs 0) (vP s.k x 16).gone),put:=gonP (rF (vP s.k x 16) 16) (vP s.k x 16).gone}:=by have:=Ml (kF (vP s.k x 16));unfold endT;rw[<-q4];exact this
 rw[hz];generalize vP s.k x 16=z at *
 have M:=v.gn;have B:∀i b,vsl i b->z.pf i b≠0->z.pf i b∉z.gone:=fun i b W C e=>by have d:=v.blk i b W C;rw[M _ e C]at d;injection d with d;injection d with d;unfold vsl at W;omega
 have p:∀i b,i<32->z.pf i b=x.pf i b:=fun i b m=>by unfold Tx.pf;rw[ze m,ze m,J]
 refine⟨⟨_,D⟩,J,q5,fun a w=>⟨(S a w).1,(zb (by omega)).trans (S a w).2⟩,fun i b m C=>?_,fun j c l=>?_,fun j c l=>⟨Q j l,?_⟩,?_⟩
 .have d:=B i b (zr m) (by rw[p i b m];exact C);rw[p i b m]at d;show getZ (gonP _ _) _=_;rw[Z7,zb d,P _ fun j c _ e=>f.ndBlk m c ((p i b m).trans e.symm),q3]
 .have d:z.fo.nd 0 j∉z.gone:=B 32 j (zu ⟨rfl,c⟩) (f.nz c);show getZ (gonP _ _) (z.fo.nd 0 j)=_;rw[Z7,zb d,X j c ((g j).trans l),K]
 .show getZ (gonP _ _) _=_;have G:=Q j l;rw[Z7,<-G,P _ fun j' L A e=>?_,f.np j c,ite_self];have:=f.ndInj L c e;subst this;rw[g,l]at A;cases A
 .have R:=Ro D.rise (T.flatMap (fun i=>(List.range 8).map (z.pf i))++((List.range 16).filter (sK x)).map (z.fo.nd 0)) fun y V=>?_
  .have l:=O6 x;rw[zm,flat8,yp]at R;exact zt R (by omega)
  .have q:=fD V;have I:y.1∉z.gone:=fun e=>(by have F:=mQ D.rise (show (y.1,y.2)∈_ from V);rw[Z7,ze e]at F;cases F);rw[yo];obtain⟨d,_,F⟩:=U.pk y q;obtain⟨⟨i,b⟩,w⟩:=vi.1 d;have t:=v.sl y.1 i b w;have E:=F i b w;rcases Y y q with O|⟨j,O,Z,h8⟩
   .have h9:∀j,j<16->y.1≠z.fo.nd 0 j:=fun j c e=>(by have r:=mQ v.rise (show (y.1,y.2)∈z.put from O);rw[e,f.np j c]at r;cases r);rcases t with⟨t,u⟩|t
    .rcases E with⟨E,H⟩|E
     .exact zr (vA.2 ⟨i,E,zU.2 ⟨b,yH.2 H,u⟩⟩)
     .unfold vsl at t;have o:i=32/\b<16:=(by omega);obtain⟨rfl,o⟩:=o;exact zY u.symm (h9 b o)
    .exact zY t.2.2 I
   .exact zu (zU.2 ⟨j,vu.2 ⟨yH.2 O,by rw[<-g];exact Z⟩,h8.symm⟩)
end
section
variable {s : Fs} {c : Nat} {A : Nat->AN}
theorem RT {l:List Pn} (h:X∈l):∃i,i<l.length/\l.getD i zN=X:=by obtain⟨i,a,rfl⟩:=uE.1 h;exact⟨i,a,by rw[zi,zh a];rfl⟩
theorem TI.mem (h:TI x s T) (c:X∈x.nodes):∃i,i<32/\x.nodes.getD i zN=X:=by obtain⟨i,b,a⟩:=RT c;exact⟨i,by rw[<-h.len];exact b,a⟩
theorem fine0 {k:Nat} (c:k<=256) (h:∀j,j<16->37<=f.nd 0 j/\f.nd 0 j<k):nb f 0:=by
 refine⟨fV fun i b=>?_,?_⟩
 .have:=h i b;unfold ng;simp;omega
 .have:=h 0 (by omega);unfold badT vO;have a:(f.nd 0 0==0)=false:=by simp;omega
  rw[a];rfl
theorem TV.fines (h:TV x s n T A') (v:(vP s.k x 16).full=false):(∀a,a<4->nb (endT s.k x).fo a)/\∀j,j<16->37<=(endT s.k x).fo.nd 0 j/\(endT s.k x).fo.nd 0 j<s.k:=by
 obtain⟨⟨t,c⟩,u,q,d,p⟩:=h.ends v;have f:=h.ti.k256;have e:∀j,j<16->37<=(endT s.k x).fo.nd 0 j/\(endT s.k x).fo.nd 0 j<s.k:=fun j b=>by have l:=c.nz j b;have i:=c.rg _ _ (c.blk 32 j (zu ⟨rfl,b⟩) l);have o:(endT s.k x).pf 32 j=(endT s.k x).fo.nd 0 j:=rfl;rw[o]at i;have r:(⟨(endT s.k x).fo,false,256⟩:Ow).fk=256:=rfl;omega
 refine⟨fun a g=>?_,e⟩;by_cases m:a=0
 .subst m;exact fine0 f e
 .exact VU (d a (by omega)).1 (d a (by omega)).2 (h.ti.fine a (by omega) g)
theorem TV.run (t:SI s c A) (u:c<=1000) (h:TV x s n T A') (w:n<=100) (v:rd x.rows=0):rX s x:=by
 have m:=h.ti.k256;have k:=h.cap.fk;refine⟨fun X d=>?_,fun X d=>?_,h.ti.dv,by omega,fun i a=>?_,by have:=t.td;omega,by have:=h.cap.p;omega,fun _ f=>?_⟩
 .obtain⟨i,a,rfl⟩:=(t.tv []).ti.mem (x:=tx0 s) d;exact fld8 ((t.tv []).ti.nd i a)
 .obtain⟨i,a,rfl⟩:=h.ti.mem d;exact fld8 (h.ti.nd i a)
 .have:=h.ti.ndPos a;omega
 .have b:=(h.ti.owns 16 zL).2.1 f;have e:=h.ti.fkFull b;refine⟨fun X d=>?_,fun p j=>?_,Iv (h.fines f).1,v,fun _=>t.syncOk u⟩
  .obtain⟨i,a,rfl⟩:=h.ti.mem d;exact h.ti.right b a
  .obtain⟨o,g⟩:=h.ti.ex;by_cases l:p=0
   .omega
   .have r:=g.rg _ _ (g.gn p j l);have q:x.ow.fk=x.fake:=rfl;omega
theorem TJ.clear {k:Nat} {T':List Nat} (h:TJ pf g o put k T ow):TJ pf g o [] k T' ow:=
 {h with rise:=List.Pairwise.nil,pk:=fun y a=>zY a yK,pd:=fun y a=>zY a yK}
theorem SI.mono (h:SI s c A) {d:Nat} (b:c<=d) (a:d<=2000):SI s d A:={h with sq:=by have:=h.sq;omega,W:=by have:=h.W;omega,cc:=a}
theorem SI.at (h:SI s c A) (e:c<2000) (z):SI (pA z s) (c+1) A/\(pA z s).k=s.k/\(∀p,p<s.k->p<5\/37<=p->secE (pA z s) p=secE s p)/\((tE z s).length<=30->(uR (pA z s).todo (tE z s)).length<=30):=by
 unfold pA;split
 .refine⟨h.sync e,rfl,fun p a b=>h.syncE a b,fun d=>?_⟩;exact zt (K7 _ _) (by show 0+(tE z s).length<=30;omega)
 .exact⟨h.mono (by omega) e,rfl,fun _ _ _=>rfl,fun _=>by omega⟩
theorem TV.done (hs:SI s c A) (hc:c<2000) (h:TV x s n T A') (hr:rd x.rows=0) (hT:64*T.length+n<=208) (he:endE s x=0):
 SI (endS s x) (c+1) A'/\(endS s x).rows=x.rows/\(endS s x).nodes=x.nodes/\(endS s x).k=s.k/\mD s x=true:=by
 have q:mD s x=true:=by
  unfold endE at he;split at he
  .omega
  .rename_i e;simpa using e
 have U:(vP s.k x 16).full=false:=by
  unfold endE at he;rw[q]at he;simp only[Bool.true_eq_false,vX]at he;split at he
  .omega
  .rename_i e;simpa using e
 obtain⟨⟨ow,o⟩,w,V,e4,Z,e6,e7,e8⟩:=h.ends U;obtain⟨Q,f2⟩:=h.fines U;have hE:endS s x=mo (endT s.k x) s:=by unfold endS;rw[ze he]
 rw[hE];generalize endT s.k x=z at *
 obtain⟨t,B,Y,t4⟩:=hs.at hc z;have J:(tE z s).length<=30:=by have C:=h.cap.d;have e:=gB s (sA z.rows.length z.rows) (dfK s (uH z.fo) z.put 3);have h2:=ZN s (uH z.fo) z.put 3;unfold tE;omega
 have hk:=hs.k1;have D:rd z.rows=0:=by rw[V];exact hr
 have u:=Om z s o.rise;have E:∀p,37<=p->p<s.k->secE (mo z s) p=(getZ z.put p).getD (secE s p):=fun p G M=>by have e:secE (mo z s) p=(getZ (uR (pA z s).todo (tE z s)) p).getD (sec (pA z s).dk.N p):=rfl;rw[e,J8 _ _ _ u,R8 _ _ (by omega),<-Y p M (zu G)];unfold secE;cases getZ z.put (p:Int)<;>rfl
 have I:(tx0 (mo z s)).pf=z.pf:=rfl;refine⟨⟨fun T'=>?_,D,Ji t.rise,t4 J,fun y l=>?_,by show 64<=(pA z s).k;rw[B];exact hs.k0,t.on,t.bn,t.held,t.sq,t.W,t.cc⟩,V,w,B,q⟩
 .have O:TI (tx0 (mo z s)) (mo z s) T':=by
   refine⟨⟨ow,?_⟩,fun i b m H=>?_,?_,fun a e F=>Q a F,fun i m=>?_,fun y l=>zY l yK,fun j _=>rfl⟩
   .have K:(mo z s).k=s.k:=B;rw[K];exact o.clear
   .rw[I]at H;have C:z.pf i b≠0:=(by omega);have e:=o.rg _ _ (o.blk i b (zr m) C);have F:(⟨z.fo,false,256⟩:Ow).fk=256:=rfl;omega
   .show z.nodes.length=32;rw[w];exact h.ti.len
   .show mA (z.nodes.getD i zN);rw[w];exact h.ti.nd i m
  have X:=YF (z:=tx0 (mo z s)) (s':=mo z s) h.ti w fun i b m C=>by have S:z.pf i b=x.pf i b:=(by unfold Tx.pf;rw[ze m,ze m,w]);have e:=o.rg _ _ (o.blk i b (zr m) (by rw[S];exact C));rw[S]at e;have F:(⟨z.fo,false,256⟩:Ow).fk=256:=rfl;have R:=E (x.pf i b).toNat (by omega) (by omega);rw[vK (by omega),Z i b m C]at R;unfold secT;rw[vK (by omega)];exact R
  refine⟨O,⟨⟨by show (256:Int)<=256;omega,by show (256:Int)<=256+_;omega⟩,zL,zL,zL⟩,fun j g=>(X j g).1.trans (h.v j g),fun j g b r hr L=>?_⟩;rw[(X j g).2];refine h.z j g b r hr ?_;rw[<-w];exact L
 .show (1<=y.1/\y.1<=4\/37<=y.1)/\y.1<((pA z s).k:Int)/\_;rw[B];have ac:=hs.k0;rcases JX l with l|l
  .rcases R7 z s l with rfl|⟨i,m,rfl⟩|l
   .exact⟨zr (by show (1:Int)<=4/\(4:Int)<=4;omega),by show (4:Int)<_;omega,NT D⟩
   .have G:=NW (f:=z.fo) fun a P=>(Q a P).1;exact⟨zr (by show (1:Int)<=((1+i:Nat):Int)/\((1+i:Nat):Int)<=4;omega),by show ((1+i:Nat):Int)<_;omega,mI (k:=3) G.1 m,gU G.2 i⟩
   .obtain⟨e,_⟩:=o.pk y l;obtain⟨a,P⟩:=vi.1 e;have h2:=o.rg _ _ P;have F:(⟨z.fo,false,256⟩:Ow).fk=256:=rfl;exact⟨zu (by omega),by omega,o.pd y l⟩
  .have:=t.tk y l;rw[B]at this;exact this
end
def vq (a:AN):List En:=if a.k=2 then outD a.D else []
def isTo (z:Int) (e:En):Bool:=decide (e.2=z)
def cntA (A:Nat->AN) (z:Int):Nat:=((List.range 32).map fun i=>(vq (A i)).countP (isTo z)).sum
theorem Vk (f g:Nat->Nat) (i) (h:∀j,j≠i->g j=f j):∀n,i<n->((List.range n).map g).sum+f i=((List.range n).map f).sum+g i
 | 0,c=>by omega
 | n+1,c=>by
  rw[vI,yy,yy,List.sum_append,List.sum_append];simp only[yF,vY,List.sum_cons,List.sum_nil];by_cases a:i=n
  .subst a;have:(List.range i).map g=(List.range i).map f:=xY fun j b=>h j (by have:=yH.1 b;omega);rw[this];omega
  .have:=Vk f g i h n (by omega);have:=h n (by omega);omega
theorem VD (c:i<32) (a) (z):cntA (upA A i a) z+(vq (A i)).countP (isTo z)=cntA A z+(vq a).countP (isTo z):=by have:=Vk (fun j=>(vq (A j)).countP (isTo z)) (fun j=>(vq (upA A i a j)).countP (isTo z)) i (fun j b=>by unfold upA;rw[zb b]) 32 c;unfold cntA;rw[this];unfold upA;simp
theorem We (d:i<32) (f:e∈vq (A i)):0<cntA A e.2:=by have a:=VD (A:=A) d zAN e.2;have c:0<(vq (A i)).countP (isTo e.2):=List.countP_pos_iff.2 ⟨e,f,by unfold isTo;simp⟩;have b:vq zAN=[]:=rfl;rw[b]at a;simp at a;omega
def entA (A:Nat->AN) (i:Nat) (e:En):Nat->AN:=upA A i {A i with s:=((layD (outD (A i).D++[e])).length),D:=layD (outD (A i).D++[e])}
def leaA (A:Nat->AN) (i:Nat) (name:ByteArray):Nat->AN:=upA A i {A i with s:=((layD (pw (A i).D name)).length),D:=layD (pw (A i).D name)}
def nf (A:Nat->AN) (n:Nat):Nat->AN:=upA A n (if (A n).l=1 then zAN else {A n with l:=(A n).l-1})
structure GI (A:Nat->AN) (δ:Nat->Int):Prop where
 ok:∀i,i<32->(A i).k=2->sU (A i).D=true
 ino:∀i,i<32->∀e∈vq (A i),(A (e.2-1).toNat).k≠0
 cnt:∀n,n<32->(A n).l=(cntA A ((n:Int)+1):Int)+(if n=0 then 1 else 0)+δ n
 pos:∀n,n<32->(A n).k≠0->1<=(A n).l
 zer:∀n,n<32->(A n).k=0->A n=zAN
 root:(A 0).k=2
 dir:∀n,n<32->(A n).k=2->(A n).l=1
section
variable {A : Nat->AN} {δ : Nat->Int} {i : Nat}
theorem GI.right (h:GI A δ) (b:i<32) (a:(A i).k=2):sf (vq (A i))=0:=by unfold vq;rw[ze a];exact (mP (h.ok i b a)).2.1
theorem QE (h:sf l=0) (a:e∈l):1<=e.2/\e.2<=32:=(jF (((rO l).1 h).2.1 e a)).2
theorem GI.to (h:GI A δ) (c:i<32) (b:e∈vq (A i)):1<=e.2/\e.2<=32:=by
 by_cases a:(A i).k=2
 .exact QE (h.right c a) b
 .unfold vq at b;rw[zb a]at b;cases b
theorem GI.congr (h:GI A δ) {δ':Nat->Int} (b:∀n,n<32->δ' n=δ n):GI A δ':={h with cnt:=fun n a=>by rw[b n a];exact h.cnt n a}
theorem Ug (a:AN) (b:a.k=2) (c:sf l=0) (sz):vq {a with s:=sz,D:=layD l}=o9 l:=by unfold vq;rw[ze (show ({a with s:=sz,D:=layD l}:AN).k=2 from b)];exact fv c
theorem GI.enter (h:GI A δ) (x:i<32) (w:(A i).k=2) (y:tc (A i).D e=0) (z:(A (e.2-1).toNat).k≠0):GI (entA A i e) (fun n=>δ n-if n+1=e.2 then 1 else 0):=by
 have u:=VI (h.ok i x w) y;unfold entA;generalize ((layD (outD (A i).D++[e])).length:Int)=o;have t:=Ug (A i) w u o;have r:vq (A i)=outD (A i).D:=ze w;have b:∀j,(upA A i {A i with s:=o,D:=layD (outD (A i).D++[e])} j).k=(A j).k/\(upA A i {A i with s:=o,D:=layD (outD (A i).D++[e])} j).l=(A j).l:=fun j=>by
  unfold upA;split
  .rename_i m;subst m;exact⟨rfl,rfl⟩
  .exact⟨rfl,rfl⟩
 refine⟨fun j m q=>?_,fun j m f g=>?_,fun n c=>?_,fun n c a=>?_,fun n c a=>?_,by rw[(b 0).1];exact h.root,fun n c a=>?_⟩
 .unfold upA;split
  .exact XO u
  .exact h.ok j m ((b j).1.symm.trans q)
 .rw[(b _).1];unfold upA at g;split at g
  .rw[t]at g;have:=(nA _).mem_iff.1 g;rcases yo.1 this with d|d
   .exact h.ino i x f (by rw[r];exact d)
   .rw[xt]at d;subst d;exact z
  .exact h.ino j m f g
 .rw[(b n).2,h.cnt n c];have d:=VD (A:=A) x {A i with s:=o,D:=layD (outD (A i).D++[e])} ((n:Int)+1);rw[t,(nA _).countP_eq,List.countP_append,r]at d;have v:[e].countP (isTo (n+1))=if n+1=e.2 then 1 else 0:=by
   unfold isTo;by_cases p:(n:Int)+1=e.2
   .rw[ze p];simp[p]
   .rw[zb p];simp[yA p]
  rw[v]at d;split at d<;>split<;>omega
 .rw[(b n).1]at a;rw[(b n).2];exact h.pos n c a
 .rw[(b n).1]at a;unfold upA;rw[zb (by rintro rfl;rw[w]at a;cases a)];exact h.zer n c a
 .rw[(b n).1]at a;rw[(b n).2];exact h.dir n c a
theorem Qx (h:sf l=0) (g:e∈l):l.Perm (e::l.filter fun y=>decide (e.1≠y.1)):=by
 have a:=((rO l).1 h).2.2;clear h
 induction l with
 | nil=>cases g
 | cons y l d=>
  rw[yF,vJ]at a;rcases yD.1 g with rfl|g
  .rw[vo,zb (by simp)];rw[uQ.2 fun z f=>by simp only[ne_eq,decide_not,Bool.not_eq_eq_eq_not,Bool.not_true,zM];intro c;exact a.1 (c▸zU.2 ⟨z,f,rfl⟩)]
  .have b:e.1≠y.1:=fun c=>a.1 (c▸zU.2 ⟨e,g,rfl⟩);rw[vo,ze (by simpa using b)];exact ((d g a.2).cons y).trans (List.Perm.swap ..)
theorem K8 (b:sf l=0) (p):sf (l.filter p)=0:=by rw[rO]at b ⊢;refine⟨zt (vh _ _) b.1,fun x a=>b.2.1 x (vu.1 a).1,?_⟩;exact List.Nodup.sublist (List.Sublist.map _ List.filter_sublist) b.2.2
theorem GI.leave (h:GI A δ) (z:i<32) (y:(A i).k=2) (B:e∈outD (A i).D):GI (leaA A i e.1) (fun n=>δ n+if n+1=e.2 then 1 else 0):=by
 have r:vq (A i)=outD (A i).D:=ze y;have d:=h.right z y;rw[r]at d;have v:sf (pw (A i).D e.1)=0:=K8 d _;unfold leaA;generalize ((layD (pw (A i).D e.1)).length:Int)=p;have u:=Ug (A i) y v p;have b:∀j,(upA A i {A i with s:=p,D:=layD (pw (A i).D e.1)} j).k=(A j).k/\(upA A i {A i with s:=p,D:=layD (pw (A i).D e.1)} j).l=(A j).l:=fun j=>by
  unfold upA;split
  .rename_i m;subst m;exact⟨rfl,rfl⟩
  .exact⟨rfl,rfl⟩
 refine⟨fun j m t=>?_,fun j m f g=>?_,fun n c=>?_,fun n c a=>?_,fun n c a=>?_,by rw[(b 0).1];exact h.root,fun n c a=>?_⟩
 .unfold upA;split
  .exact XO v
  .exact h.ok j m ((b j).1.symm.trans t)
 .rw[(b _).1];unfold upA at g;split at g
  .rw[u]at g;exact h.ino i z f (by rw[r];exact (vu.1 ((nA _).mem_iff.1 g)).1)
  .exact h.ino j m f g
 .rw[(b n).2,h.cnt n c];have o:=VD (A:=A) z {A i with s:=p,D:=layD (pw (A i).D e.1)} ((n:Int)+1);have x:=(Qx d B).countP_eq (isTo ((n:Int)+1));rw[u,(nA _).countP_eq,r,x,List.countP_cons]at o;have w:(if isTo (n+1) e=true then 1 else 0)=if n+1=e.2 then 1 else 0:=by
   unfold isTo;by_cases q:(n:Int)+1=e.2
   .rw[ze q];simp[q]
   .rw[zb q];simp[yA q]
  rw[w]at o;unfold pw at o ⊢;split at o<;>split<;>omega
 .rw[(b n).1]at a;rw[(b n).2];exact h.pos n c a
 .rw[(b n).1]at a;unfold upA;rw[zb (by rintro rfl;rw[y]at a;cases a)];exact h.zer n c a
 .rw[(b n).1]at a;rw[(b n).2];exact h.dir n c a
theorem GI.set (h:GI A δ) (v:i<32) (a) (s:a.k≠0) (t:vq a=vq (A i)) (u:a.k=2->a.l=1/\sU a.D=true) (w:1<=a.l) (x:i=0->a.k=2):
 GI (upA A i a) (fun n=>δ n+if n=i then a.l-(A i).l else 0):=by
 have r:∀z,cntA (upA A i a) z=cntA A z:=fun z=>by have:=VD (A:=A) v a z;rw[t]at this;omega
 have o:∀j,vq (upA A i a j)=vq (A j):=fun j=>by
  unfold upA;split
  .rename_i c;rw[c];exact t
  .rfl
 refine⟨fun j c e=>?_,fun j c f p=>?_,fun n d=>?_,fun n d b=>?_,fun n d b=>?_,?_,fun n d b=>?_⟩
 .unfold upA at e ⊢;split
  .rename_i c;rw[ze c]at e;exact (u e).2
  .rename_i m;rw[zb m]at e;exact h.ok j c e
 .rw[o]at p;have q:=h.ino j c f p;unfold upA;split
  .exact s
  .exact q
 .rw[r];have q:=h.cnt n d;unfold upA;by_cases g:n=i
  .rw[ze g,ze g];subst g;omega
  .rw[zb g,zb g];omega
 .unfold upA at b ⊢;split
  .exact w
  .rename_i c;rw[zb c]at b;exact h.pos n d b
 .unfold upA at b ⊢;split at b
  .exact zY b s
  .rename_i c;rw[zb c];exact h.zer n d b
 .unfold upA;split
  .rename_i c;exact x c.symm
  .exact h.root
 .unfold upA at b ⊢;split
  .rename_i c;rw[ze c]at b;exact (u b).1
  .rename_i c;rw[zb c]at b;exact h.dir n d b
theorem GI.gone (h:GI A δ) (w:i<32) (v:i≠0) (y:(A i).l=δ i) (x:vq (A i)=[]):GI (upA A i zAN) (fun n=>δ n-if n=i then (A i).l else 0):=by
 have u:∀z,cntA (upA A i zAN) z=cntA A z:=fun z=>by have:=VD (A:=A) w zAN z;rw[x]at this;have r:vq zAN=[]:=rfl;rw[r]at this;omega
 have o:cntA A (i+1)=0:=by have:=h.cnt i w;rw[zb v]at this;omega
 have q:∀j,vq (upA A i zAN j)=vq (A j):=fun j=>by
  unfold upA;split
  .rename_i c;rw[c,x];rfl
  .rfl
 have s:zAN.k≠2:=by decide
 refine⟨fun j c e=>?_,fun j c f m=>?_,fun n b=>?_,fun n b a=>?_,fun n b a=>?_,?_,fun n b a=>?_⟩
 .unfold upA at e ⊢;split at e
  .exact zY e s
  .rename_i g;rw[zb g];exact h.ok j c e
 .rw[q]at m;have p:=h.ino j c f m;unfold upA;split
  .rename_i g;have r:=h.to c m;have t:=We c m;rw[show f.2=(i:Int)+1 by omega,o]at t;omega
  .exact p
 .rw[u];have p:=h.cnt n b;unfold upA;by_cases d:n=i
  .rw[ze d,ze d];subst d;rw[zb v]at p ⊢;show (0:Int)=_;omega
  .rw[zb d,zb d];omega
 .unfold upA at a ⊢;split at a
  .exact zY rfl a
  .rename_i c;rw[zb c];exact h.pos n b a
 .unfold upA at a ⊢;split
  .rfl
  .rename_i c;rw[zb c]at a;exact h.zer n b a
 .unfold upA;rw[zb (yA v)];exact h.root
 .unfold upA at a ⊢;split at a
  .exact zY a s
  .rename_i c;rw[zb c];exact h.dir n b a
end
theorem fQ (
 D) (n) (name) (s:n<=32) (r:pW ((ino n 0).map (rdE D))):∀(f q k),f+k=7->FInv D n name q k ->
 (∃e∈(ino n 0).map (rdE D),e.1=name/\(qp D n name f q k).1=e.2/\(qp D n name f q k).2.2=0)\/((∀e∈(ino n 0).map (rdE D),e.1≠name)/\(qp D n name f q k).1=0/\(qp D n name f q k).2.2=4)
 | 0,q,k,g,h=>zu ⟨h.none (by have p:=h.pow;have l:k=7:=(by omega);subst l;omega),rfl,rfl⟩
 | f+1,q,k,g,h=>by
  rw[qp];by_cases a:q<n
  .rw[ze a];by_cases b:cmpB name (rdE D q).1=0
   .rw[ze b];have m:name=(rdE D q).1:=by
     unfold cmpB at b;split at b
     .cases b
     .split at b
      .assumption
      .cases b
    obtain⟨e,i,c,d⟩:=h.found a m;exact zr ⟨e,i,c,d.symm,rfl⟩
   .rw[zb b];by_cases c:cmpB name (rdE D q).1<0
    .rw[ze c];have d:lexB name (rdE D q).1=true:=(by have:=ZO name (rdE D q).1;rw[ya c]at this;exact this.symm);exact fQ D n name s r f _ _ (by omega) (h.left a r d)
    .rw[zb c];have d:lexB (rdE D q).1 name=true:=by
      have j:lexB name (rdE D q).1=false:=(by have:=ZO name (rdE D q).1;rw[zz c]at this;exact this.symm);cases o:lexB (rdE D q).1 name with
      | true=>rfl
      | false=>exact zY (by unfold cmpB;rw[zb (by rw[j];decide),ze (Z5 j o)]) b
     exact fQ D n name s r f _ _ (by omega) (h.right a r d)
  .rw[zb a];exact zu ⟨h.none (by omega),rfl,rfl⟩
theorem OX (h:sU D=true) (name):(∃e∈outD D,e.1=name/\(vB D name).1=e.2/\(vB D name).2.2=0)\/((∀e∈outD D,e.1≠name)/\(vB D name).1=0/\(vB D name).2.2=4):=by have a:=(nB D).1 h;exact fQ D (D.length / 16) name (by omega) (mP h).1 7 0 0 rfl (FInv.start _ _ _)
section
variable {x : Tx} {s : Fs} {n c i : Nat} {A : Nat->AN} {T : List Nat} {δ : Nat->Int}
theorem XQ (a:sf l=0):(layD l).length<=512/\un (layD l):=⟨by have:=ZV a;have:=((rO l).1 a).1;omega,Nf a⟩
theorem TV.ent (h:TV x s n T A) (g:GI A δ) (a:i<32) (c:i∈T) (b:(A i).k=2) (d:tc (A i).D e=0):
 TV (x.entX s i e) s (n+8) T (entA A i e):=by
 unfold Tx.entX;rw[(h.at a).2.2.2.2.2.2.2];exact h.fill a c (by rw[b];decide) (XQ (VI (g.ok i a b) d))
theorem TV.lea (h:TV x s n T A) (g:GI A δ) (c:i<32) (f:i∈T) (d:(A i).k=2) (j:e∈outD (A i).D):
 TV (x.leaX s i e.1) s (n+8) T (leaA A i e.1):=by
 unfold Tx.leaX;rw[(h.at c).2.2.2.2.2.2.2];have b:hasE (A i).D e.1=true:=by unfold hasE;rw[wb];exact⟨e,j,by simp⟩
 rw[ze b];have a:=g.right c d;unfold vq at a;rw[ze d]at a;exact h.fill c f (by rw[d];decide) (XQ (K8 a _))
theorem TV.room (h:TV x s n T A) (f:n<=100):lS x:=by have a:=h.cap.fk;have b:=h.cap.g;have e:=h.cap.p;have c:=h.cap.d;exact⟨by omega,by omega,by omega,by omega,by omega⟩
theorem Va (h:TI x s T) (d:jt s) (c:i<32):un (x.dirD s i):=by rw[lX _ _ c];intro y a;obtain⟨b,_,a⟩:=vA.1 (yY a);exact (h.blk_ok d c b).2 y a
theorem me (h:mA X):0<=X.s/\X.s<=512/\X.s<=64*X.P.length:=by
 rcases h with rfl|⟨_,b,a,_,_,c⟩
 .exact⟨by decide,by decide,by decide⟩
 .refine⟨b,a,?_⟩;rw[c];unfold sg;split<;>omega
theorem TV.dirT (h:TV x s n T A) (q:jt s) (r:64<=s.k) (t:n<=1000) (m:i<32) (o:sU (A i).D=true):DirT x s i (x.nodes.getD i zN) (x.dirD s i):=by
 have e:=h.ti.nd i m;have j:=h.ti.k256;have g:=h.cap.fk;have f:=me e;have b:∀p∈(x.nodes.getD i zN).P,0<=p/\p<=x.fake/\(p<s.k\/(getZ x.put p).isSome=true):=fun p b=>by
  have d:=h.ti.ptIn m b;by_cases l:256<p
  .rcases d with d|⟨d,c|c⟩
   .omega
   .omega
   .exact⟨by omega,c.2.1,zu c.2.2⟩
  .exact⟨by omega,by omega,zr (by omega)⟩
 refine⟨m,?_,fun p a=>?_,fun p a=>⟨(b p a).1,(b p a).2.1⟩,fld8 e,⟨f.1,f.2.2⟩,rfl,Va h.ti q m,by rw[(h.at m).2.2.2.2.2.2.2];exact o⟩
 .rw[zi,zh (by rw[h.ti.len];exact m)];rfl
 .have:=b p a;exact⟨this.1,by omega,this.2.2⟩
theorem SI.pts (h:SI s c A) (e:i<32):ml (s.nodes.getD i zN).P s.k:=fun p a=>by have b:=(h.tv []).ti.ptIn (x:=tx0 s) e a;have d:(tx0 s).fake=256:=rfl;have:=h.k0;omega
theorem SI.dirS (h:SI s c A) (g:GI A δ) (m:i<32) (n:(A i).k=2):DirS s i (s.nodes.getD i zN) (dirB s i):=by
 have a:=h.tv [];have b:=a.at m;have e:=me (a.ti.nd i m);have j:s.nodes.length=32:=a.ti.len;have d:dirB s i=(tx0 s).dirD s i:=rfl;refine⟨m,?_,b.1.trans n,?_,h.pts m,fld8 (a.ti.nd i m),⟨e.1,e.2.2⟩,rfl,by rw[d];exact Va a.ti h.sec m,?_⟩
 .rw[zi,zh (by omega)];rfl
 .have f:(s.nodes.getD i zN).l=(A i).l:=b.2.2.2.2.2.1;rw[f];have:=g.pos i m (by rw[n];decide);omega
 .rw[d,b.2.2.2.2.2.2.2];exact g.ok i m n
theorem SI.A_at (h:SI s c A) (a:i<32):(s.nodes.getD i zN).k=(A i).k/\(s.nodes.getD i zN).m=(A i).m/\(s.nodes.getD i zN).u=(A i).u/\(s.nodes.getD i zN).g=(A i).g/\(s.nodes.getD i zN).s=(A i).s/\(s.nodes.getD i zN).l=(A i).l/\(s.nodes.getD i zN).up=(A i).up/\dirB s i=(A i).D:=(h.tv []).at a
theorem SI.dirsOk (h:SI s c A) (g:GI A δ):eI s:=⟨fun i a b=>h.dirS g a ((h.A_at a).1.symm.trans b),(h.A_at (by omega)).1.trans g.root⟩
end
theorem ft: outD []=[]:=by kernel_rfl
theorem JY: sU []=true:=by kernel_rfl
def newA (k m u g:Int) (i:Nat) (b:List Int):AN:=⟨k,m,u,g,b.length,1,(newP k m u g i).up,b⟩
theorem YG (A) (i) (a b):upA (upA A i a) i b=upA A i b:=by funext j;unfold upA;split<;>rfl
theorem lw (A) (i) (a):upA A i a i=a:=ze rfl
theorem om (A) (a) (h:j≠i):upA A i a j=A j:=zb h
section
variable {x : Tx} {s : Fs} {n c i : Nat} {A : Nat->AN} {T : List Nat} {δ : Nat->Int}
theorem Qv (h:mA X) (a:X.k=0):X=zN:=by
 rcases h with h|⟨h,_⟩
 .exact h
 .omega
theorem TV.zero (h:TV x s n T A) (a:i<32) (b:(A i).k=0):x.nodes.getD i zN=zN:=Qv (h.ti.nd i a) ((h.at a).1.trans b)
theorem SI.free (f:SI s c A) (h:pb s=some n):n<32/\(A n).k=0:=by
 unfold pb at h;obtain⟨d,b,_⟩:=xP.1 h;have e:s.nodes.length=32:=(f.tv []).ti.len;have a:n<32:=by omega
 refine⟨a,?_⟩;rw[<-(f.A_at a).1,zi,zh d];simpa using b
theorem TS {g:Int} (h:1<=k/\k<=3/\0<=m/\m<=511/\0<=u/\u<=255/\0<=g/\g<=255) (c:i<32):mA (newP k m u g i):=by refine zu ⟨⟨h.1,h.2.1,h.2.2.1,h.2.2.2.1,h.2.2.2.2.1,h.2.2.2.2.2.1,h.2.2.2.2.2.2.1,h.2.2.2.2.2.2.2,Int.zero_le_ofNat 1,(by show (1:Int)<=200;omega)⟩,wU 0,(by show (0:Int)<=512;omega),fun b=>?_,fun b=>zb b,rfl⟩;have a:k=2:=b;show 1<=(if k=2 then (i:Int)+1 else 0)/\(if k=2 then (i:Int)+1 else 0)<=32;rw[ze a];omega
theorem SI.new (w:SI s c A) (g:GI A fun _=>0) (x:i<32) (r:n<32) (v:(A n).k=0) (y:1<=k/\k<=3/\0<=m/\m<=511/\0<=u/\u<=255/\0<=gg/\gg<=255) (z:b.length<=512/\un b) (t:k=2->b=[]):
 TV (addT s n (newP k m u gg i) b) s 16 [n,i] (upA A n (newA k m u gg i b))/\GI (upA A n (newA k m u gg i b)) (fun j=>if j=n then 1 else 0):=by
 have d:=w.tv [n,i];have l:=g.zer n r v;have h:=d.zero r v;have o:=d.set r (N:=newP k m u gg i) (by rw[h];rfl) (by rw[h];rfl) (TS y x);have f:=o.fill r (by simp) (by rw[lw];show k≠0;omega) z;have q:=d.ti.len;have e:((tx0 s).setX n (newP k m u gg i)).nodes.getD n zN=newP k m u gg i:=by unfold Tx.setX;rw[rG,ze ⟨rfl,by omega⟩]
 rw[e,YG,lw]at f;refine⟨f,(g.set r (newA k m u gg i b) (by show k≠0;omega) ?_ (fun a=>⟨rfl,?_⟩) (by show (1:Int)<=1;omega) (fun p=>?_)).congr fun j _=>?_⟩
 .rw[l];unfold vq;split
  .rename_i a;rw[t a];exact ft
  .rfl
 .show sU b=true;rw[t a];exact JY
 .subst p;rw[g.root]at v;cases v
 .rw[l];show (if j=n then (1:Int) else 0)=0+if j=n then 1-0 else 0
  split<;>omega
theorem GI.ne (g:GI A δ) (b:(A i).k=2) (a:(A n).k=0):i≠n:=by rintro rfl;rw[b]at a;cases a
theorem SI.add (w:SI s c A) (g:GI A fun _=>0) (C:c<=1000) (x:i<32) (y:(A i).k=2) (z:pb s=some n) (E:1<=k/\k<=3/\0<=m/\m<=511/\0<=u/\u<=255/\0<=gg/\gg<=255) (F:b.length<=512/\un b) (B:k=2->b=[]) (name):
 pN s i n (newP k m u gg i) b name/\(addT s n (newP k m u gg i) b).dirD s i=(A i).D /\
  (tc (A i).D (name,n+1)=0->TV ((addT s n (newP k m u gg i) b).entX s i (name,n+1)) s 24 [n,i] (entA (upA A n (newA k m u gg i b)) i (name,n+1))/\GI (entA (upA A n (newA k m u gg i b)) i (name,n+1)) fun _=>0):=by
 obtain⟨v,r⟩:=w.free z;have l:=g.ne y r;obtain⟨t,o⟩:=w.new g x v r E F B (i:=i);have d:upA A n (newA k m u gg i b) i=A i:=om _ _ l;have a:(upA A n (newA k m u gg i b) i).k=2:=by rw[d];exact y
 have q:(addT s n (newP k m u gg i) b).dirD s i=(A i).D:=by rw[(t.at x).2.2.2.2.2.2.2,d]
 have h:tc (A i).D (name,n+1)=0->TV ((addT s n (newP k m u gg i) b).entX s i (name,n+1)) s 24 [n,i] (entA (upA A n (newA k m u gg i b)) i (name,n+1))/\GI (entA (upA A n (newA k m u gg i b)) i (name,n+1)) fun _=>0:=fun f=>by
  rw[<-d]at f;refine⟨t.ent o x (by simp) a f,(o.enter x a f ?_).congr fun j _=>?_⟩
  .have e:((name,(n:Int)+1).2-1:Int).toNat=n:=(by show ((n:Int)+1-1).toNat=n;omega);rw[e,lw];show k≠0;omega
  .show (0:Int)=(if j=n then 1 else 0)-if (j:Int)+1=(n:Int)+1 then 1 else 0
   by_cases p:j=n
   .rw[ze p,ze (by omega)];rfl
   .rw[zb p,zb (by omega)];rfl
 refine⟨⟨t.room (by omega),t.dirT w.sec w.k0 (by omega) x (o.ok i x a),fun f=>?_⟩,q,h⟩;rw[q]at f;exact (h f).1.run w C (by omega) w.rows
end
section
variable {x : Tx} {s : Fs} {n c i : Nat} {A : Nat->AN} {T : List Nat} {δ : Nat->Int}
theorem fld_ne (h:mA X) (a:X.k≠0):fldR X:=by
 rcases h with rfl|h
 .exact zY rfl a
 .exact h
theorem TV.fld (h:TV x s n T A) (a:i<32) (b:(A i).k≠0):fldR (x.nodes.getD i zN):=fld_ne (h.ti.nd i a) (by rw[(h.at a).1];exact b)
theorem TV.len (h:TV x s n T A) (d:jt s) (c:i<32):((A i).D.length)=(A i).s:=by have a:=h.at c;rw[<-a.2.2.2.2.2.2.2,<-a.2.2.2.2.1,lX _ _ c,zj,Ux fun b=>(h.ti.blk_ok d c b).1];have:=me (h.ti.nd i c);omega
theorem Uf (h:a.D.length=a.s) (c:¬(a.k=2/\0<a.s)):vq a=[]:=by
 unfold vq;split
 .rename_i b;have:a.D=[]:=yR.1 (by omega);rw[this];exact ft
 .rfl
theorem O2 (d:sU a.D=true) (f:e∈outD a.D):0<a.D.length:=by have b:=(mP d).2.2.1;have c:=rT f;omega
theorem GI.noRoot (g:GI A δ) (f:δ 0=0) (h:i<32) (j:e∈vq (A i)):e.2≠1:=fun c=>by have b:=We h j;rw[c]at b;have a:=g.cnt 0 (by omega);have d:=g.dir 0 (by omega) g.root;rw[ze rfl,f]at a;have:((0:Nat):Int)+1=1:=rfl;rw[this]at a;omega
theorem TV.drop (h:TV x s n T A) (g:GI A δ) {m:Nat} (I:m<32) (K:m≠0) (P:δ m=1) (J:(A m).k≠0) (M:(A m).k=2->vq (A m)=[]) (L:s.held=[]) (O:n<=100):
 ZG x s m/\TV (x.dropX s m) s (n+16) T (nf A m)/\GI (nf A m) (fun j=>δ j-if j=m then 1 else 0):=by
 have i:=h.at I;have b:=h.fld I J;have H:=g.pos m I J;have y:=b.1.2.2.2.2.2.2.2.2.2;have G:mA (oS (x.nodes.getD m zN)):=zu ⟨⟨b.1.1,b.1.2.1,b.1.2.2.1,b.1.2.2.2.1,b.1.2.2.2.2.1,b.1.2.2.2.2.2.1,b.1.2.2.2.2.2.2.1,b.1.2.2.2.2.2.2.2.1,(by show 0<=(x.nodes.getD m zN).l-1;omega),(by show (x.nodes.getD m zN).l-1<=200;omega)⟩,b.2⟩;have o:=h.set I (N:=oS (x.nodes.getD m zN)) rfl rfl G;have F:⟨(oS (x.nodes.getD m zN)).k,(oS (x.nodes.getD m zN)).m,(oS (x.nodes.getD m zN)).u,(oS (x.nodes.getD m zN)).g,(oS (x.nodes.getD m zN)).s,(oS (x.nodes.getD m zN)).l,(oS (x.nodes.getD m zN)).up,(A m).D⟩={A m with l:=(A m).l-1}:=by obtain⟨r,C,w,E,t,v,B,_⟩:=i;unfold oS;simp only;rw[r,C,w,E,t,v,B]
 rw[F]at o;have z:(x.setX m (oS (x.nodes.getD m zN))).nodes.getD m zN=oS (x.nodes.getD m zN):=by unfold Tx.setX;rw[rG,ze ⟨rfl,by rw[h.ti.len];exact I⟩]
 have c:ZG x s m:=by have:=h.room O;exact⟨I,by omega,fld8 (h.ti.nd m I),by rw[L];simp[getZ],this.g,this.d⟩
 refine⟨c,?_⟩;unfold nf;by_cases f:(A m).l=1
 .rw[ze f];refine⟨?_,?_⟩
  .have q:=o.free I (by rw[lw];show (A m).l-1=0;omega) L;rw[z,YG]at q;exact q
  .refine (g.gone I K (by omega) ?_).congr fun j _=>(by rw[f]);by_cases a:(A m).k=2
   .exact M a
   .unfold vq;rw[zb a]
 .rw[zb f];refine⟨?_,?_⟩
  .have p:x.dropX s m=x.setX m (oS (x.nodes.getD m zN)):=(by unfold Tx.dropX Tx.freeX;rw[ze (zr (by show 0<(x.nodes.getD m zN).l-1;omega))]);rw[p];exact o.mono (by omega)
  .have a:(A m).k≠2:=fun e=>f (g.dir m I e);refine (g.set I {A m with l:=(A m).l-1} J ?_ (fun e=>zY e a) (by show 1<=(A m).l-1;omega) (fun e=>zY e K)).congr fun j _=>?_
   .unfold vq;rw[zb a]
   .show δ j-(if j=m then 1 else 0)=δ j+if j=m then (A m).l-1-(A m).l else 0
    split<;>omega
theorem SI.unlink (B:SI s c A) (g:GI A fun _=>0) (F:c<=1000) (z:i<32) (y:(A i).k=2) (E:e∈outD (A i).D) (G:n+1=e.2) (C:¬((A n).k=2/\0<(A n).s)):
 lc s i n e.1/\TV (((tx0 s).leaX s i e.1).dropX s n) s 24 [i] (nf (leaA A i e.1) n)/\GI (nf (leaA A i e.1) n) (fun _=>0):=by
 have h:=B.tv [i];have b:e∈vq (A i):=by unfold vq;rw[ze y];exact E
 have r:=g.to z b;have a:n<32:=by omega
 have u:=g.noRoot rfl z b;have f:(A n).k≠0:=by have:=g.ino i z e b;rw[show (e.2-1).toNat=n by omega]at this;exact this
 have l:n≠i:=by rintro rfl;have o:=O2 (g.ok n z y) E;have x:=h.len B.sec z;exact C ⟨y,by omega⟩
 have v:=h.lea g z (by simp) y E;have w:=g.leave z y E;have d:leaA A i e.1 n=A n:=om _ _ l;obtain⟨q,m,t⟩:=v.drop w a (by omega) (by rw[ze G];rfl) (by rw[d];exact f) (fun _=>by rw[d];exact Uf (h.len B.sec a) C) B.held (by omega);refine⟨⟨q,m.run B F (by omega) ?_⟩,m,t.congr fun j _=>?_⟩
 .have o:(((tx0 s).leaX s i e.1).dropX s n).rows=s.rows:=by unfold Tx.dropX Tx.freeX Tx.leaX Tx.setX Tx.fillX Tx.wow;split<;>split<;>rfl
  rw[o];exact B.rows
 .show (0:Int)=0+(if (j:Int)+1=e.2 then 1 else 0)-if j=n then 1 else 0
  by_cases p:j=n
  .rw[ze p,ze (by omega)];rfl
  .rw[zb p,zb (by omega)];rfl
theorem SI.link (Q:SI s c A) (g:GI A fun _=>0) (U:c<=1000) (S:i<32) (T:(A i).k=2) (R:n<32) (O:(A n).k≠0) (P:(A n).k≠2) (V:(A n).l≠200) (name):
 iA s i n name/\((tx0 s).setX n (sI (s.nodes.getD n zN))).dirD s i=(A i).D/\(tc (A i).D (name,n+1)=0->TV (((tx0 s).setX n (sI (s.nodes.getD n zN))).entX s i (name,n+1)) s 16 [i] (entA (upA A n {A n with l:=(A n).l+1}) i (name,n+1))/\GI (entA (upA A n {A n with l:=(A n).l+1}) i (name,n+1)) fun _=>0):=by
 have r:=Q.tv [i];have q:=r.at R;have a:=r.fld R O;have J:mA (sI (s.nodes.getD n zN)):=by have M:(s.nodes.getD n zN).l=(A n).l:=q.2.2.2.2.2.1;exact zu ⟨⟨a.1.1,a.1.2.1,a.1.2.2.1,a.1.2.2.2.1,a.1.2.2.2.2.1,a.1.2.2.2.2.2.1,a.1.2.2.2.2.2.2.1,a.1.2.2.2.2.2.2.2.1,(by have:=a.1.2.2.2.2.2.2.2.2.1;show 0<=(s.nodes.getD n zN).l+1;have K:0<=(s.nodes.getD n zN).l:=this;omega),(by have K:(s.nodes.getD n zN).l<=200:=a.1.2.2.2.2.2.2.2.2.2;show (s.nodes.getD n zN).l+1<=200;omega)⟩,a.2⟩
 have o:=r.set R (N:=sI (s.nodes.getD n zN)) rfl rfl J;have L:⟨(sI (s.nodes.getD n zN)).k,(sI (s.nodes.getD n zN)).m,(sI (s.nodes.getD n zN)).u,(sI (s.nodes.getD n zN)).g,(sI (s.nodes.getD n zN)).s,(sI (s.nodes.getD n zN)).l,(sI (s.nodes.getD n zN)).up,(A n).D⟩={A n with l:=(A n).l+1}:=by obtain⟨y,H,F,I,z,C,G,_⟩:=Q.A_at R;unfold sI;simp only;rw[y,H,F,I,z,C,G]
 rw[L]at o;have w:=g.pos n R O;have t:=g.set R {A n with l:=(A n).l+1} O (by unfold vq;rw[zb P]) (fun B=>zY B P) (by show 1<=(A n).l+1;omega) (fun E=>by subst E;exact zY g.root P);have p:i≠n:=by rintro rfl;exact P T
 have d:upA A n {A n with l:=(A n).l+1} i=A i:=om _ _ p;have b:(upA A n {A n with l:=(A n).l+1} i).k=2:=by rw[d];exact T
 have v:((tx0 s).setX n (sI (s.nodes.getD n zN))).dirD s i=(A i).D:=by rw[(o.at S).2.2.2.2.2.2.2,d]
 have h:tc (A i).D (name,n+1)=0->TV (((tx0 s).setX n (sI (s.nodes.getD n zN))).entX s i (name,n+1)) s 16 [i] (entA (upA A n {A n with l:=(A n).l+1}) i (name,n+1))/\GI (entA (upA A n {A n with l:=(A n).l+1}) i (name,n+1)) fun _=>0:=fun f=>by
  rw[<-d]at f;refine⟨o.ent t S (by simp) b f,(t.enter S b f ?_).congr fun j _=>?_⟩
  .have e:((name,(n:Int)+1).2-1:Int).toNat=n:=(by show ((n:Int)+1-1).toNat=n;omega);rw[e,lw];exact O
  .show (0:Int)=0+(if j=n then (A n).l+1-(A n).l else 0)-if (j:Int)+1=(n:Int)+1 then 1 else 0
   by_cases x:j=n
   .rw[ze x,ze (by omega)];omega
   .rw[zb x,zb (by omega)];rfl
 refine⟨⟨o.dirT Q.sec Q.k0 (by omega) S (t.ok i S b),fun f=>?_⟩,v,h⟩;rw[v]at f;exact (h f).1.run Q U (by omega) Q.rows
end
