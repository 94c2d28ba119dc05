import Derived.Test.YtakfhadmokoikaaGreatDoorKA33
set_option maxHeartbeats 0
set_option linter.all false
set_option maxRecDepth 100000
namespace Go.Proofs.YtakfhadmokoikaaGreatDoor
open Go.Proofs.Tryz Go.RowKit
variable {B gf gt:Nat} {F F1 T:Nat->Prop} {a:Addr} {s:Fs} {w:World} {x:Tx}
def PtR (x:Tx) (s:Fs) (p:Int):Prop:=0<=p/\p<=1000000/\(p<(s.k:Int)\/(getZ x.put p).isSome=true)
theorem OK (h:TxAt w B F gt (gf,()) x T) (N:FsAt w gf s F1 a) (n:Nat) (M:PtR x s (n:Int)):
 Calls prog 81 #[(gt,()),n] w (lT (secT x s n) w):=by
 obtain⟨H,K,I,G,C,A,E,J,i⟩:=h.lies;obtain⟨L,_,_,_,u,_⟩:=sZ i.row;have b:=i.puts.look_ok (k:=(n:Int)) intT mz (u8sZ w) (by unfold InZ;have:=M.2.1;omega);rcases i.secs.get (k:=(n:Int)) with⟨g,d⟩|⟨v,D,g,d,t⟩
 .unfold hasZ at b;rw[g]at b;have r:Hid (secT x s n=secE s n):=by show _=_;unfold secT;rw[d];rfl
  rw[show ((none:Option Value).getD (.slice none 0 0))=.slice none 0 0 from rfl,show ((none:Option Value).isSome)=false from rfl]at b;have m:=Lib.hid (Kf N n (by have j:=M.2.2;rw[d]at j;rcases j with j|j<;>first|omega|cases j));clear h N i g d M;go_enter func81,ntmps81;go_wp2_with fail
  refine m.o.mono ?_;rintro e y ⟨l,rfl,c⟩;have q:=Lib.hid c;clear c;go_wp2;go_ret;rw[r.o];exact⟨l,rfl,q.o⟩
 .unfold hasZ at b;rw[g]at b;have r:Hid (secT x s n=D):=by show _=_;unfold secT;rw[d];rfl
  rw[show ((some v).getD (.slice none 0 0))=v from rfl,show ((some v).isSome)=true from rfl]at b;have f:D.length=64:=by obtain⟨_,_,_,_,z,_⟩:=t;exact z
  have p:=Lib.hid (jB v D w t.at (by omega) (by omega));clear h N i g d t f M;go_enter func81,ntmps81;go_wp2_with fail
  refine p.o.mono ?_;rintro e y ⟨l,rfl,c⟩;have q:=Lib.hid c;clear c;go_wp2;go_ret;rw[r.o];exact⟨l,rfl,q.o⟩
theorem LZ (h:TxAt w B F gt (gf,()) x T) (hf:FsAt w gf s F1 a) (X:Pn) (q:Option Addr) (n c:Nat) (hX:vQ w (q,n,c) X.P) (k:Nat) (hk:k<8) (hP:∀p∈X.P,PtR x s p) (ae:X.P.length<=8):
 Calls prog 35 #[(gt,()),.agg #[X.k,X.m,X.u,X.g,X.s,X.l,X.up,(q,n,c)],k] w (lT (sB x s X.P k) w):=by
 obtain⟨p,cp,hv,b⟩:=Zq hX;injection hv with e1 O e3;subst e1 e3;have J:Hid (X.P.length=n):=O.symm;clear O;rw[J.o]at b ae;have f:Hid (Below w w (w.alloc (.cells #[X.k,X.m,X.u,X.g,X.s,X.l,X.up,(q,n,c)] 59))):=zB.alloc zL _;have U:=Lib.hid (h.below f.o);have L:=Lib.hid (hf.below f.o);obtain⟨Z,E⟩:=zA (List.replicate 64 (0:Int));have Y:∀W:World,(Instr.makeSlice 23 (.int .i64 64) (.int .i64 64)).run prog W=.ok (.slice (some ⟨W.heap.size,0,none⟩) 64 64) (W.alloc (.cells (u8s Z).toArray 5)):=fun W=>by rw[E.o];exact jl 64 64 rfl (by omega) W
 have A:Hid (sB x s X.P k=Z->lT (sB x s X.P k) w (.returned (.slice (some ⟨(w.alloc (.cells #[X.k,X.m,X.u,X.g,X.s,X.l,X.up,(q,n,c)] 59)).heap.size,0,none⟩) 64 64)) ((w.alloc (.cells #[X.k,X.m,X.u,X.g,X.s,X.l,X.up,(q,n,c)] 59)).alloc (.cells (u8s Z).toArray 5))):=fun I=>by
  have C:Z.length=64:=by rw[E.o];simp
  refine lT.bump f.o ⟨_,rfl,_,64,_,by rw[I,C],⟨zL,by rw[I,C];exact zL⟩,zH,?_,zB.alloc zL _⟩;rw[I,zv (by rw[xV,vO];exact zL)]
 by_cases G:n<=k
 .have D:Hid (sB x s X.P k=Z):=by show _=_;unfold sB;rw[zh,yd (by rw[J.o];exact G),show (none:Option Int).getD 0=0 from rfl,ze rfl,E.o]
  have R:decide ((n:Int)<=(k:Int))=true:=yf (by omega);have Q:(n:Int)<=(k:Int):=by omega
  clear h hf hX b;go_enter func35,ntmps35;go_wp2;go_ret;simpa using A.o D.o
 .have d:k<X.P.length:=by rw[J.o];omega
  obtain⟨H,op,rfl,r⟩:=b.o (by omega);have N:=r k _ (mt X.P k d);have M:=zG N;have aa:¬H=w.heap.size:=by show ¬H=w.heap.size;have h2:H<w.heap.size:=M;omega
  have t:=hP _ (zz d);have j:X.P.getD k 0=X.P[k]:=by rw[zh,zf d];rfl
  have R:decide ((n:Int)<=(k:Int))=false:=zK (by omega);have Q:¬(n:Int)<=(k:Int):=by omega
  have d3:(k:Int)<(n:Int):=by omega
  obtain⟨y,Hy⟩:=zD (X.P[k]' d);rw[Hy.o]at N t j;by_cases i:y=0
  .subst i;have D:Hid (sB x s X.P k=Z):=(by show _=_;unfold sB;rw[j,ze rfl,E.o]);clear h hf hX b r;go_enter func35,ntmps35;go_wp2;go_ret;simpa using A.o D.o
  .have b0:(y==0)=false:=(by simpa using i);obtain⟨p,K⟩:∃p:Nat,Hid (y=(p:Int)):=⟨y.toNat,by show _=_;have:=t.1;omega⟩;have D:Hid (sB x s X.P k=secT x s p):=(by show _=_;unfold sB;rw[j,zb i,K.o];rfl);have z:=Lib.hid (OK U.o L.o p (by rw[<-K.o];exact t));rw[<-K.o]at z;clear h hf hX b r i;go_enter func35,ntmps35;go_wp2_with fail
   refine z.o.mono ?_;intro e w1 V;obtain⟨S,rfl,v⟩:=V;have HV:=Lib.hid v;clear v;go_wp2;go_ret;rw[D.o];exact lT.bump f.o ⟨S,rfl,HV.o⟩
theorem oU (h:FsAt w gf s F a) (i:Nat) (hi:i<32) (X:Pn) (hX:s.nodes[i]?=some X):
 ∃gn on cn yq yn yc,w.cell? (gf,195)=some (.slice (some ⟨gn,on,none⟩) 32 cn)/\gn<w.heap.size /\
  w.cell? (gn,on+i*8)=some (.int .i64 X.k)/\w.cell? (gn,on+i*8+1)=some (.int .i64 X.m)/\w.cell? (gn,on+i*8+2)=some (.int .i64 X.u)/\w.cell? (gn,on+i*8+3)=some (.int .i64 X.g) /\
  w.cell? (gn,on+i*8+4)=some (.int .i64 X.s)/\w.cell? (gn,on+i*8+5)=some (.int .i64 X.l)/\w.cell? (gn,on+i*8+6)=some (.int .i64 X.up)/\w.cell? (gn,on+i*8+7)=some (.slice yq yn yc) /\
  Out F w (fun w'=>vQ w' (yq,yn,yc) X.P):=by
 obtain⟨⟨gl,rv,nv,bt,bh,E,tl,FD,Q,h2,h3,h4,h5,h6,h7,U,z,L,S,M,D,G,N,T,J⟩,a1,Z,a3,a4,a5,a6,a7⟩:=h;obtain⟨_,_,_,d,_,_⟩:=nu Q;have q:E.length=32:=by rw[z.1];exact Z
 obtain⟨p2,j,e,x⟩:=jC U.now;rw[q]at e x;subst e;obtain⟨g,o,rfl,I,R⟩:=x.o (by omega);have c:i<E.length:=by omega
 have b:i<s.nodes.length:=by omega
 obtain⟨r,A,y,B,C,t,v,H⟩:=mG R i c;have f:=z.2 i c b;have p:s.nodes[i]=X:=by rw[zf b]at hX;injection hX
 rw[p]at f;obtain⟨K,O,Y,f3,f4,V,W,n⟩:=f;rw[K]at r;rw[O]at A;rw[Y]at y;rw[f3]at B;rw[f4]at C;rw[V]at t;rw[W]at v;exact⟨g,o,j,_,_,_,d,I,r,A,y,B,C,t,v,H,n⟩
theorem gX (h:FsAt w gf s F a) (i:Nat) (D:i<32) (X:Pn) (C:s.nodes[i]?=some X):
 Calls prog 41 #[(gf,()),.int .i64 ((i:Int)+1)] w (fun e w'=>e=.returned (.bool (decide (X.k≠0)))/\w=w'):=by
 obtain⟨z,r,v,B,q,t,c,l,g,_⟩:=oU h i D X C;have x:IntKind.i64.wrap ((i:Int)+1-1)=(i:Int):=by rw[zQ _ (by omega)];omega
 have j:(1:Int)<=(i:Int)+1:=by omega
 have f:(i:Int)+1<=32:=by omega
 have n:decide ((1:Int)<=(i:Int)+1)=true:=yf j;have A:decide ((i:Int)+1<=32)=true:=yf f;obtain⟨y,m⟩:=zD X.k;rw[m.o]at g ⊢;clear h C;by_cases b:y=0
 .subst b;go_enter func41,ntmps41;go_wp2;go_ret;simp
 .have u:(y==0)=false:=by simpa using b
  have p:(y != 0)=true:=by simpa using b
  have d:decide (y≠0)=true:=yf b;rw[d];go_enter func41,ntmps41;go_wp2;go_ret;simp
theorem V7 (h:FsAt w gf s F a) (i:Nat) (B:i<32) (X:Pn) (A:s.nodes[i]?=some X):
 Calls prog 105 #[(gf,()),.int .i64 ((i:Int)+1)] w (fun e w'=>e=.returned (.int .i64 (if X.k=0 then 4 else if X.k=2 then 0 else 12))/\w=w'):=by
 have b:=Lib.hid (gX h i B X A);obtain⟨x,q,u,z,p,r,g,l,j,_⟩:=oU h i B X A;have v:IntKind.i64.wrap ((i:Int)+1-1)=(i:Int):=by rw[zQ _ (by omega)];omega
 obtain⟨y,m⟩:=zD X.k;rw[m.o]at j b ⊢;clear h A;by_cases d:y=0
 .subst d;go_enter func105,ntmps105;go_wp2_with fail
  refine b.o.mono ?_;rintro e f ⟨rfl,rfl⟩;go_wp2;go_ret;simp
 .rw[show decide (y≠0)=true from yf d]at b;rw[zb d];by_cases c:y=2
  .subst c;go_enter func105,ntmps105;go_wp2_with fail
   refine b.o.mono ?_;rintro e f ⟨rfl,rfl⟩;go_wp2;go_ret;simp
  .have t:(y==2)=false:=(by simpa using c);have n:(y != 2)=true:=(by simpa using c);rw[zb c];go_enter func105,ntmps105;go_wp2_with fail
   refine b.o.mono ?_;rintro e f ⟨rfl,rfl⟩;go_wp2;go_ret;simp
theorem gU (h:FsAt w gf s F a) (i:Nat) (B:i<32) (X:Pn) (A:s.nodes[i]?=some X):
 Calls prog 30 #[(gf,()),.int .i64 ((i:Int)+1)] w (fun e w'=>e=.returned (.int .i64 (if X.k=0 then 4 else if X.k=1 then 0 else 12))/\w=w'):=by
 have b:=Lib.hid (gX h i B X A);obtain⟨x,q,u,z,p,r,g,l,j,_⟩:=oU h i B X A;have v:IntKind.i64.wrap ((i:Int)+1-1)=(i:Int):=by rw[zQ _ (by omega)];omega
 obtain⟨y,m⟩:=zD X.k;rw[m.o]at j b ⊢;clear h A;by_cases d:y=0
 .subst d;go_enter lA,nP;go_wp2_with fail
  refine b.o.mono ?_;rintro e f ⟨rfl,rfl⟩;go_wp2;go_ret;simp
 .rw[show decide (y≠0)=true from yf d]at b;rw[zb d];by_cases c:y=1
  .subst c;go_enter lA,nP;go_wp2_with fail
   refine b.o.mono ?_;rintro e f ⟨rfl,rfl⟩;go_wp2;go_ret;simp
  .have t:(y==1)=false:=(by simpa using c);have n:(y != 1)=true:=(by simpa using c);rw[zb c];go_enter lA,nP;go_wp2_with fail
   refine b.o.mono ?_;rintro e f ⟨rfl,rfl⟩;go_wp2;go_ret;simp
theorem kG (u g:Int) (k:0<=u/\u<=255) (l:0<=g/\g<=255) (w:World):
 Calls prog 22 #[u,g] w (fun e w'=>e=.returned (.bool true)/\w=w'):=by
 obtain⟨d,c⟩:=k;obtain⟨b,a⟩:=l;have j:decide (0<=u)=true:=yf d;have f:decide (u<=255)=true:=yf c;have i:decide (0<=g)=true:=yf b;have h:decide (g<=255)=true:=yf a;go_enter func22,ntmps22;go_wp2;go_ret;simp
theorem Jo: prog.underlying 97=some (.slice 59):=by kernel_rfl
theorem Mw (l:List Nd):∀u∈uu l,u.oneCell'=true:=by intro u a;unfold uu at a;obtain⟨x,_,a⟩:=wU.1 a;simp[nd8]at a;rcases a with rfl|rfl|rfl|rfl|rfl|rfl|rfl|rfl<;>rfl
theorem Mx (l:List Nd):(uu l).length=l.length*8:=by
 induction l with
 | nil=>rfl
 | cons x l a=>simp only[uu,xA,zl,yz,nd8,xP]at *;omega
def ZR (B:Nat) (l:List Nd) (w:World) (e:Ending) (w':World):Prop:=∃v,e=.returned v/\w'.ownsRow B 59 8 v l.length (uu l)/\Below B w w'/\w.heap.size<=w'.heap.size
theorem Lg (v:Value) (l:List Nd) (w:World) (h:xT w v 8 l.length (uu l)) (T:l.length<=1000000):
 Calls prog 80 #[v] w (ZR w l w):=by
 obtain⟨O,H,m,p,q⟩:=xp ZH;have Q:=Lib.hid H;have C:=Lib.hid m;have D:=Lib.hid p;have A:=Lib.hid q;clear H m p q;obtain⟨n,e⟩:=zA l.length;obtain⟨a,c,P,B⟩:∃a c,v=.slice a n c/\Hid (∀d,a=some d->∀j u,(uu l)[j]?=some u->w.cell? (d.add j)=some u)/\(a=none->n=0):=by
  obtain⟨S,⟨I,a,c,rfl⟩|⟨g,o,c,rfl,R⟩⟩:=h
  .refine⟨a,c,by rw[e.o,I],fun d _ j u x=>?_,fun _=>by rw[e.o];exact I⟩;have:=(zy.1 x).1;omega
  .refine⟨_,c,by rw[e.o],fun d J j u x=>?_,fun h=>by cases h⟩;cases J;have s:(⟨g,o,none⟩:Addr).add j=⟨g,o+j,none⟩:=(by unfold Addr.add;split<;>simp_all);rw[s];exact R j u x
 obtain⟨B,F⟩:=B;subst P;have i:(uu l).length=n*8:=by rw[Mx,<-e.o]
 have t:=Lib.hid i;rw[<-e.o]at T;clear i h;unfold ZR;rw[<-e.o];have N:∀(w:World) (a:Option Addr) (n c y z:Nat),(binOp .eql 97 (a,n,c) (.slice none y z)).run prog w=.ok (.bool a.isNone) w:=fun w a n c y z=>r8 w _ _ a n c y z Jo;cases a with
 | none=>
  have E:=Lib.hid (F rfl);clear F;go_enter func80,ntmps80;go_wp2;go_ret;exact⟨_,rfl,⟨t.o,zt ⟨rfl,E.o⟩⟩,zB,zL⟩
 | some d=>
  clear F;go_enter func80,ntmps80;go_wp2_with (at_builtin;refine yH _ rfl _ _ 97 rfl w.heap.size 59 O _ 8 80 Jo Q.o C.o D.o A.o rfl (by decide) _ _ _ rfl (uQ w #[] 0 zL zZ rfl) d n c (uu l) rfl ?qc1 ?qc2 ?qc3 ?qc4 ?qc5 ?qc6 ?_)
  case qc1=>exact t.o
  case qc2 =>intro j u x;have:=B.o d rfl j u x;rw[wk _ _ _ (zG this)];exact this
  case qc3=>exact Mw l
  case qc4=>unfold maxLen;omega
  case qc5=>omega
  case qc6=>simp
  intro L K f b r;have G:Below w w K:=((xW _ w).alloc zL _).grown b (by simp) (by intro k M;simp[Value.ownBlock]at M;omega);clear b r;go_wp2;go_ret;exact⟨L,rfl,f,G,G.size⟩
theorem N9: ∃Z PL:Array _,Z.size=200/\PL[0]?=some (0,1)/\PL[1]?=some (1,192)/\PL[2]?=some (193,1)/\PL[3]?=some (194,1)/\PL[4]?=some (195,1)/\PL[5]?=some (196,1)/\PL[8]?=some (199,1)/\Z[197]?=some (.slice none 0 0)/\Z[198]?=some (.bool false) /\
 ∀parts,prog.built 150 parts=Instr.fill (PL[·]?) Z parts:=
 ⟨((prog.info? 150).bind (·.zero)).get!.cells,#[(0,1),(1,192),(193,1),(194,1),(195,1),(196,1),(197,1),(198,1),(199,1)],by kernel_rfl,rfl,rfl,rfl,rfl,rfl,rfl,rfl,by kernel_rfl,by kernel_rfl,fun _=>by kernel_rfl⟩
theorem nx {n:Nat} {place:Nat->Option (Nat×Nat)} {cells:Array Value} {k:Nat} (v:Value) {rest:List (Nat×Value)} (a:Nat) (A:Array Value) (c:v.cells=A) (d:place k=some (a,A.size)) (e:cells.size=n) (b:a+A.size<=n):
 ∃cs:Array Value,cs.size=n/\(∀i,cs[i]?=if a<=i/\i<a+A.size then A[i-a]? else cells[i]?)/\Instr.fill place cells ((k,v)::rest)=Instr.fill place cs rest:=by
 subst c e;exact⟨nZ cells a v.cells,O5 _ _ _,Q5 _ _ _ b,RP a _ d rfl b⟩
theorem Oz (p:Addr) (fo:Fo) (q2 q3:Option Addr) (n2 n3 c2 c3 gd gp:Nat):prog.built 150 [(0,.pointer (some p)),(1,.agg (encF fo)),(2,.slice q2 n2 c2),(3,.slice q3 n3 c3),(4,.map (some gd)),(5,.map (some gp)),(8,.int .i64 256)] =
 some (txR (.pointer (some p)) fo (q2,n2,c2) (q3,n3,c3) (.map (some gd)) (.map (some gp)) (.slice none 0 0) false 256):=by
 obtain⟨Z,a,P,C,y,l,e,g,f,u,J,R,q⟩:=N9;have b:(encF fo).size=192:=uh fo;have r:∀i,1<=i->i<193->(encF fo)[i-1]?=some (uO fo ((i-1) / 48) ((i-1)%48)):=fun i L W=>by
  have:=sS fo ((i-1) / 48) ((i-1)%48) (by omega) (by omega)
  rwa [show (i-1) / 48*48+(i-1)%48=i-1 by omega]at this
 generalize encF fo=A at b r ⊢;obtain⟨M,O,z,D⟩:=nx (n:=200) (place:=(a[·]?)) (k:=0) (cells:=Z) (rest:=[(1,.agg A),(2,.slice q2 n2 c2),(3,.slice q3 n3 c3),(4,.map (some gd)),(5,.map (some gp)),(8,.int .i64 256)]) (.pointer (some p)) 0 #[.pointer (some p)] rfl C P (by simp);obtain⟨c,K,s,v⟩:=nx (n:=200) (place:=(a[·]?)) (k:=1) (cells:=M) (rest:=[(2,.slice q2 n2 c2),(3,.slice q3 n3 c3),(4,.map (some gd)),(5,.map (some gp)),(8,.int .i64 256)]) (.agg A) 1 A rfl (by rw[b];exact y) O (by rw[b];omega);obtain⟨d,S,G,E⟩:=nx (n:=200) (place:=(a[·]?)) (k:=2) (cells:=c) (rest:=[(3,.slice q3 n3 c3),(4,.map (some gd)),(5,.map (some gp)),(8,.int .i64 256)]) (q2,n2,c2) 193 #[(q2,n2,c2)] rfl l K (by simp);obtain⟨U,I,x,F⟩:=nx (n:=200) (place:=(a[·]?)) (k:=3) (cells:=d) (rest:=[(4,.map (some gd)),(5,.map (some gp)),(8,.int .i64 256)]) (q3,n3,c3) 194 #[(q3,n3,c3)] rfl e S (by simp);obtain⟨N,V,B,h⟩:=nx (n:=200) (place:=(a[·]?)) (k:=4) (cells:=U) (rest:=[(5,.map (some gp)),(8,.int .i64 256)]) (.map (some gd)) 195 #[.map (some gd)] rfl g I (by simp);obtain⟨T,H,j,t⟩:=nx (n:=200) (place:=(a[·]?)) (k:=5) (cells:=N) (rest:=[(8,.int .i64 256)]) (.map (some gp)) 196 #[.map (some gp)] rfl f V (by simp);obtain⟨Y,X,w,m⟩:=nx (n:=200) (place:=(a[·]?)) (k:=8) (cells:=T) (rest:=[]) (.int .i64 256) 199 #[(256:Int)] rfl u H (by simp);rw[q];rw[D];rw[v];rw[E];rw[F];rw[h];rw[t];rw[m];rw[Instr.fill];refine congrArg some ?_;clear D v E F h t m q C y l e g f u;apply yV;intro i;by_cases Q:i<200
 .rw[qf _ _ _ _ _ _ _ _ _ _ Q];simp only[us,yz,xP,b]at z s G x B j w;rw[w,j,B,x,G,s,z];unfold pL;by_cases L:193<=i
  .have:i=193\/i=194\/i=195\/i=196\/i=197\/i=198\/i=199:=(by omega);rcases this with rfl|rfl|rfl|rfl|rfl|rfl|rfl<;>simp[J,R]
  .rw[zb (by omega),zb (by omega),zb (by omega),zb (by omega),zb (by omega)];by_cases o:i=0
   .subst o;simp
   .rw[ze (by omega),zb o,ze (by omega)];exact r i (by omega) (by omega)
 .rw[ya (by omega),ya (by rw[qY];omega)]
def bgF (w:World) (gf:Nat) (A:Array Value) (rv nv:Value) (E:List Nd) (fo:Fo) (i:Nat) (v:Value) (u:World):Prop:=
 if i=3 then v=.pointer (some ⟨gf,2,none⟩) else if i=4 then v=.agg A else if i=7 then v=.pointer (some ⟨gf,194,none⟩) else if i=8 then v=rv else if i=11 then v=.pointer (some ⟨gf,195,none⟩) else if i=12 then v=nv
 else if i=13 then u.ownsRow w.heap.size 59 8 v E.length (uu E)
 else if i=14\/i=15 then ∃g,v=.map (some g)/\w.heap.size<=g/\MapL prog 3 u g []
 else if i=16 then ∃n c gd gp,v=.agg (txR (gf,()) fo rv (.slice (some ⟨n,0,none⟩) 32 c) (.map (some gd)) (.map (some gp)) (.slice none 0 0) false 256)/\u.ownsRow w 59 8 (.slice (some ⟨n,0,none⟩) 32 c) 32 (uu E) /\
  w.heap.size<=gd/\w.heap.size<=gp/\gd≠gp/\MapL prog 3 u gd []/\MapL prog 3 u gp []
 else if i=17\/i=18 then ∃gt n c gd gp,v=.pointer (some ⟨gt,0,none⟩)/\w.heap.size<=gt/\u.heap[gt]?=some (.cells (txR (gf,()) fo rv (.slice (some ⟨n,0,none⟩) 32 c) (.map (some gd)) (.map (some gp)) (.slice none 0 0) false 256) 150)/\u.ownsRow w 59 8 (.slice (some ⟨n,0,none⟩) 32 c) 32 (uu E) /\
  w.heap.size<=gd/\w.heap.size<=gp/\gd≠gp/\MapL prog 3 u gd []/\MapL prog 3 u gp []
 else v=.pointer (some ⟨gf,0,none⟩)
theorem Qo {A:Array Value} {rv nv:Value} {E:List Nd} {fo:Fo} (j:Nat) (v:Value) (u u':World) (r:Below u u u') (h:bgF w gf A rv nv E fo j v u):bgF w gf A rv nv E fo j v u':=by
 unfold bgF at h ⊢;by_cases c:j=3
 .rw[ze c]at h ⊢;exact h
 rw[zb c]at h ⊢;clear c;by_cases c:j=4
 .rw[ze c]at h ⊢;exact h
 rw[zb c]at h ⊢;clear c;by_cases c:j=7
 .rw[ze c]at h ⊢;exact h
 rw[zb c]at h ⊢;clear c;by_cases c:j=8
 .rw[ze c]at h ⊢;exact h
 rw[zb c]at h ⊢;clear c;by_cases c:j=11
 .rw[ze c]at h ⊢;exact h
 rw[zb c]at h ⊢;clear c;by_cases c:j=12
 .rw[ze c]at h ⊢;exact h
 rw[zb c]at h ⊢;clear c;by_cases c:j=13
 .rw[ze c]at h ⊢;exact th h r
 rw[zb c]at h ⊢;clear c;by_cases c:j=14\/j=15
 .rw[ze c]at h ⊢;obtain⟨g,e,d,a⟩:=h;exact⟨g,e,d,a.of_block (r.block _ a.lt)⟩
 rw[zb c]at h ⊢;clear c;by_cases c:j=16
 .rw[ze c]at h ⊢;obtain⟨n,c,l,i,e,d,a,m,k,f,b⟩:=h;exact⟨n,c,l,i,e,th d r,a,m,k,f.of_block (r.block _ f.lt),b.of_block (r.block _ b.lt)⟩
 rw[zb c]at h ⊢;clear c;by_cases c:j=17\/j=18
 .rw[ze c]at h ⊢;obtain⟨o,n,c,l,i,e,q,p,d,a,m,k,f,b⟩:=h;exact⟨o,n,c,l,i,e,q,we r p,th d r,a,m,k,f.of_block (r.block _ f.lt),b.of_block (r.block _ b.lt)⟩
 rw[zb c]at h ⊢;clear c;exact h
theorem oh (h:FsAt w gf s F a):
 Calls prog 31 #[(gf,())] w (fun e w'=>∃gt T,e=.returned (gt,())/\Below w w w'/\TxAt w' w F gt (gf,()) ⟨s.fo,s.rows,s.nodes,[],[],[],false,256⟩ T):=by
 have H:=Lib.hid h;obtain⟨⟨gl,rv,L,bt,bh,E,tl,FD,M,h2,h3,h4,h5,h6,h7,h8,h9,ap,aC,ay,ae,af,aj,al,ax⟩,a1,a2,a3,a4,a5,a6,a7⟩:=h;obtain⟨k0,k1,W,Q,aK,aH⟩:=nu M;have hE:E.length=32:=by rw[h9.1];exact a2
 obtain⟨qr,cr,ag⟩:∃qr cr,rv=.slice qr s.rows.length cr:=by
  obtain⟨_,⟨x,a0,c0,rfl⟩|⟨g,o,c,rfl,_⟩⟩:=h7.now
  .exact⟨a0,c0,by rw[x]⟩
  .exact⟨_,_,rfl⟩
 obtain⟨A,HA⟩:=zA (encF s.fo);have aD:Hid (A.size=192):=by rw[HA.o];exact uh _
 obtain⟨R,HR⟩:=zD (fsR (.pointer (some a)) (gl,()) s.fo rv L (.map (some bt)) (.map (some bh)));have aw:Hid (∀j,j<A.size->R[2+j]?=A[j]?):=by rw[<-HR.o,HA.o];exact iM _ _ _ _ _ _ _
 rw[HR.o]at M;have t:=Lib.hid M;have H8:=Lib.hid h8;have H7:=Lib.hid h7;have H9:=Lib.hid h9;clear h2 h3 h4 h5 h6 ap aC ay ae af aj al ax a1 a2 a3 a4 a5 a6 M h7 h8 h9;go_enter func31,ntmps31
 go_upto_region 1 with fail
 refine Hi (by kernel_rfl) (by kernel_rfl) (fun u u'=>Below u u u') (zB.drew) (fun u u' M h2=>Below.step M h2) 21 (fun i=>if i=18 then 2 else i+3) (bgF w gf A rv L E s.fo) (fun i j=>(i=14/\j=15)\/(i=15/\j=14)) (fun k v=>k=0/\v=.pointer (some ⟨gf,0,none⟩)) Qo (by omega) (fun i j bi=>?_) (fun i k v hk=>?_) (by kernel_rfl) ⟨rfl,rfl,fun k v hk=>?_⟩ ?_ ?_
 .split<;>split<;>omega
 .split<;>omega
 .obtain⟨rfl,rfl⟩:=hk;rfl
 .intro D b u l i o d m f;have y:=l.old 0 _ ⟨rfl,rfl⟩
  match i,d,m,f with
  | 0,d,m,f=>
   simp only[zj,zw]at d;subst d;exact qC (.tmp 0) rfl ⟨_,rfl,zB,y,by omega⟩
  | 1,d,m,f=>
   simp only[zj,zk,zw]at d;subst d;exact qC (.tmp 0) rfl ⟨_,rfl,zB,y,by omega⟩
  | 2,d,m,f=>
   simp only[zj,zk,zw]at d;subst d;have e1:=l.fact 1 (f ⟨1,.data⟩ (by simp) rfl);exact mv (.tmp 4) rfl ⟨gf,0,none⟩ e1 ⟨_,rfl,zB,rfl,by omega⟩
  | 3,d,m,f=>
   simp only[zj,zk,zw]at d;subst d;have e2:=l.fact 2 (f ⟨2,.data⟩ (by simp) rfl);exact sK (v:=.pointer (some ⟨gf,2,none⟩)) (w':=u) (by unfold execOp;simp only[Act.eval];rw[show b.tmps.getD 5 undef=_ from e2];simp[go_sem]) ⟨_,rfl,zB,rfl,by omega⟩
  | 4,d,m,f=>
   simp only[zj,zk,zw]at d;subst d;have e3:=l.fact 3 (f ⟨3,.data⟩ (by simp) rfl);refine wp_load_mid 95 (.tmp 6) rfl gf 2 e3 A.toList _ (fun j v x=>?_) forT rfl (by rw[yp,aD.o];exact forI) ?_
   .have an:j<A.size:=(by have:=(zy.1 x).1;simpa using this);rw[zC (we l.b t.o),aw.o j an,<-x,zP]
   .exact⟨_,rfl,zB,rfl,by omega⟩
  | 5,d,m,f=>
   simp only[zj,zk,zw]at d;subst d;exact qC (.tmp 0) rfl ⟨_,rfl,zB,y,by omega⟩
  | 6,d,m,f=>
   simp only[zj,zk,zw]at d;subst d;have e5:=l.fact 5 (f ⟨5,.data⟩ (by simp) rfl);exact mv (.tmp 8) rfl ⟨gf,0,none⟩ e5 ⟨_,rfl,zB,rfl,by omega⟩
  | 7,d,m,f=>
   simp only[zj,zk,zw]at d;subst d;have e6:=l.fact 6 (f ⟨6,.data⟩ (by simp) rfl);exact sK (v:=.pointer (some ⟨gf,194,none⟩)) (w':=u) (by unfold execOp;simp only[Act.eval];rw[show b.tmps.getD 9 undef=_ from e6];simp[go_sem]) ⟨_,rfl,zB,rfl,by omega⟩
  | 8,d,m,f=>
   simp only[zj,zk,zw]at d;subst d;have e7:=l.fact 7 (f ⟨7,.data⟩ (by simp) rfl);have r:u.cell? (gf,194)=some rv:=(l.b.cell (p:=⟨gf,194,none⟩) (xL t.o)).trans W;exact sK (v:=rv) (w':=u) (by unfold execOp;simp only[Act.eval];rw[show b.tmps.getD 10 undef=_ from e7];simp[go_sem,r]) ⟨_,rfl,zB,rfl,by omega⟩
  | 9,d,m,f=>
   simp only[zj,zk,zw]at d;subst d;exact qC (.tmp 0) rfl ⟨_,rfl,zB,y,by omega⟩
  | 10,d,m,f=>
   simp only[zj,zk,zw]at d;subst d;have e9:=l.fact 9 (f ⟨9,.data⟩ (by simp) rfl);exact mv (.tmp 12) rfl ⟨gf,0,none⟩ e9 ⟨_,rfl,zB,rfl,by omega⟩
  | 11,d,m,f=>
   simp only[zj,zk,zw]at d;subst d;have az:=l.fact 10 (f ⟨10,.data⟩ (by simp) rfl);exact sK (v:=.pointer (some ⟨gf,195,none⟩)) (w':=u) (by unfold execOp;simp only[Act.eval];rw[show b.tmps.getD 13 undef=_ from az];simp[go_sem]) ⟨_,rfl,zB,rfl,by omega⟩
  | 12,d,m,f=>
   simp only[zj,zk,zw]at d;subst d;have aA:=l.fact 11 (f ⟨11,.data⟩ (by simp) rfl);have r:u.cell? (gf,195)=some L:=(l.b.cell (p:=⟨gf,195,none⟩) (xL t.o)).trans Q;exact sK (v:=L) (w':=u) (by unfold execOp;simp only[Act.eval];rw[show b.tmps.getD 14 undef=_ from aA];simp[go_sem,r]) ⟨_,rfl,zB,rfl,by omega⟩
  | 13,d,m,f=>
   simp only[zj,zk,zw]at d;subst d;have a9:=l.fact 12 (f ⟨12,.data⟩ (by simp) rfl);refine Ve 80 #[.tmp 15] #[97] rfl (fun _ _=>by kernel_rfl) #[L] (by simp only[uG,yI,un,Act.eval];rw[show b.tmps.getD 15 undef=_ from a9];rfl) (fun v w'=>w'.ownsRow u 59 8 v E.length (uu E)/\Below u u w')
    ((Lg L E u (H8.o.now.below l.b) (by omega)).mono fun e w' ⟨v,he,x1,x2,_⟩=>⟨v,he,x1,x2⟩) ?_
   intro v w' x;exact⟨_,rfl,x.2,mw x.1 l.b.size,by omega⟩
  | 14,d,m,f=>
   simp only[zj,zk,zw]at d;subst d;refine IA _ rfl ⟨_,rfl,zB.alloc zL _,⟨_,rfl,l.b.size,MapL.made _⟩,fun j hj I=>?_⟩;obtain rfl:j=15:=(by omega);obtain⟨g,hg,_,hm⟩:=l.fact 15 I;rw[hg];have:=hm.lt;intro r;injection r with r;injection r with r;omega
  | 15,d,m,f=>
   simp only[zj,zk,zw]at d;subst d;refine IA _ rfl ⟨_,rfl,zB.alloc zL _,⟨_,rfl,l.b.size,MapL.made _⟩,fun j hj I=>?_⟩;obtain rfl:j=14:=(by omega);obtain⟨g,hg,_,hm⟩:=l.fact 14 I;rw[hg];have:=hm.lt;intro r;injection r with r;injection r with r;omega
  | 16,d,m,f=>
   simp only[zj,zk,zw]at d;subst d;have e0:=l.fact 0 (f ⟨0,.data⟩ (by simp) rfl);have e4:=l.fact 4 (f ⟨4,.data⟩ (by simp) rfl);have e8:=l.fact 8 (f ⟨8,.data⟩ (by simp) rfl);have ah:=f ⟨13,.data⟩ (by simp) rfl;have X:=f ⟨14,.data⟩ (by simp) rfl;have aa:=f ⟨15,.data⟩ (by simp) rfl;have G:u.ownsRow w 59 8 (b.tmps.getD 16 undef) E.length (uu E):=l.fact 13 ah;obtain⟨gd,Y,N,am⟩:∃g,b.tmps.getD 17 undef=.map (some g)/\w.heap.size<=g/\MapL prog 3 u g []:=l.fact 14 X;obtain⟨gp,P,V,a8⟩:∃g,b.tmps.getD 18 undef=.map (some g)/\w.heap.size<=g/\MapL prog 3 u g []:=l.fact 15 aa;have O:b.tmps.getD 17 undef≠b.tmps.getD 18 undef:=l.ne 14 15 (zt ⟨rfl,rfl⟩) X aa;rw[Y,P]at O;obtain⟨n,c,B⟩:∃n c,b.tmps.getD 16 undef=.slice (some ⟨n,0,none⟩) 32 c:=by
    obtain⟨_,⟨x,h0⟩|⟨g,c,aY,x,_⟩⟩:=id G
    .omega
    .exact⟨g,c,by rw[x,hE]⟩
   rw[B,hE]at G;refine JR _ _ rfl #[(0,.pointer (some ⟨gf,0,none⟩)),(1,.agg A),(2,rv),(3,.slice (some ⟨n,0,none⟩) 32 c),(4,.map (some gd)),(5,.map (some gp)),(8,.int .i64 256)] ?_ (txR (gf,()) s.fo rv (.slice (some ⟨n,0,none⟩) 32 c) (.map (some gd)) (.map (some gp)) (.slice none 0 0) false 256) ?_ ?_
   .simp only[uG,yI,un,Act.eval];rw[show b.tmps.getD 3 undef=_ from e0,show b.tmps.getD 7 undef=_ from e4,show b.tmps.getD 11 undef=_ from e8,B,Y,P]
   .rw[HA.o,ag];exact Oz _ _ _ _ _ _ _ _ _ _
   .exact⟨_,rfl,zB,⟨n,c,gd,gp,rfl,G,N,V,fun r=>O (by rw[r]),am,a8⟩,by omega⟩
  | 17,d,m,f=>
   simp only[zj,zk,zw]at d;subst d;obtain⟨n,c,gd,gp,aq,q1,Z,q3,q4,q5,S⟩:=l.fact 16 (f ⟨16,.data⟩ (by simp) rfl);have z:Below u u (u.alloc (.cells (txR (gf,()) s.fo rv (.slice (some ⟨n,0,none⟩) 32 c) (.map (some gd)) (.map (some gp)) (.slice none 0 0) false 256) 150)):=zB.alloc zL _;exact Xx 150 (.tmp 19) rfl _ aq ⟨_,rfl,z,⟨_,n,c,gd,gp,rfl,l.b.size,zH,th q1 z,Z,q3,q4,q5.of_block (z.block _ q5.lt),S.of_block (z.block _ S.lt)⟩,by omega⟩
  | 18,d,m,f=>
   simp only[zj,zk,zw]at d;subst d;obtain⟨gt,n,c,gd,gp,aG,q⟩:=l.fact 17 (f ⟨17,.data⟩ (by simp) rfl);exact KR (.tmp 20) rfl ⟨_,rfl,zB,⟨gt,n,c,gd,gp,aG,q⟩,by omega⟩
 .intro D b u l U;obtain⟨gt,n,c,gd,gp,ai,q0,q1,Z,q3,q4,q5,S,q7⟩:=l.fact 18 (U 18 (by simp));rename_i K hK;have bq:gt<u.heap.size:=xL q1;have ba:n<u.heap.size:=(Z.lt n rfl).2;have aO:w.heap.size<=n:=(Z.lt n rfl).1;have N:=S.lt;have V:=q7.lt;have C:∀i,i<w.heap.size->(F i\/(i=gt\/i=n\/i=gd\/i=gp))->F i:=fun i hl J=>by
   rcases J with J|J|J|J|J
   .exact J
   all_goals omega
  refine hK _ _ (wp_ret ?_);refine yS (v:=.pointer (some ⟨gt,0,none⟩)) ?_ l.dfs ⟨gt,fun i=>i=gt\/i=n\/i=gd\/i=gp,rfl,l.b,?_⟩
  .have e2:b.tmps.getD 2 undef=.pointer (some ⟨gt,0,none⟩):=ai;have e3:b.tmps[2]?=some (.pointer (some ⟨gt,0,none⟩)):=(by rw[xt (by rw[l.size];omega)];rw[<-e2];simp[l.size]);simp[results,results31,go_sem,e2,e3]
  .refine uP.at (rv:=rv) (gn:=n) (cn:=c) (gd:=gd) (gp:=gp) (gv:=.slice none 0 0) (E:=E) (pl:=[]) ⟨q1,?_,Z,?_,S,q7,te.nil _ _,q5,⟨rfl,zt ⟨rfl,rfl⟩⟩,zu (zt rfl),zu (zu (zt rfl)),zu (zu (zu rfl)),fun b hb=>by cases hb⟩ (zt rfl) (by rw[<-H9.o.1];exact hE) ?_ ?_ (by simp) (by simp) (by simp) a7 (by simp)
   .exact (H7.o.grow C).below l.b
   .exact (H9.o.grow C).keep (yK.of_below l.b)
   .rintro i (rfl|rfl|rfl|rfl)<;>assumption
   .rintro i (rfl|rfl|rfl|rfl)<;>assumption
theorem gu (h:FsAt w gf s F a) (n:Nat) (T:n<s.k):(secE s n).length=64:=by
 obtain⟨⟨r,C,I,S,O,E,t,R,y,e,K,x,A,M,z,J,N,i,c,j,d,f,l,m,g⟩,P,Q,B,H,G,L,u⟩:=h;unfold secE;rcases c.sec.get (k:=(n:Int)) with⟨o,b⟩|⟨v,D,o,b,q⟩
 .rw[b];exact mD e.lens.2 T
 .rw[b];obtain⟨_,_,_,_,p,_⟩:=q;exact p
theorem Su {fp:Value} (h:TxAt w B F gt fp x T) (q:FsAt w gf s F1 a) (n:Nat) (r:n<s.k):(secT x s n).length=64:=by
 obtain⟨p,g,i,l,j,o,E,m,d⟩:=h.lies;unfold secT;rcases d.secs.get (k:=(n:Int)) with⟨c,b⟩|⟨v,D,c,b,f⟩
 .rw[b];exact gu q n r
 .rw[b];obtain⟨_,_,_,_,e,_⟩:=f;exact e
