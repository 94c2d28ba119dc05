import Derived.Test.YtmanoiagchpelaaGreatDoorKA27
set_option maxHeartbeats 0
set_option linter.all false
set_option maxRecDepth 100000
namespace Go.Proofs.YtmanoiagchpelaaGreatDoor
open Go.Proofs.Tryz Go.RowKit
variable {B gf gt:Nat} {F F1 T:Nat->Prop} {a:Addr} {s:Fs} {w:World} {x:Tx}
def PtR (x:Tx) (s:Fs) (p:Int):Prop:=0<=p/\p<=1000000/\(p<s.k\/(getZ x.put p).isSome=true)
theorem Nt (h:TxAt w B F gt (gf,()) x T) (N:FsAt w gf s F1 a) (n:Nat) (M:PtR x s n):
 Calls prog 137 #[(gt,()),n] w (l7 (secT x s n) w):=by
 obtain⟨H,K,I,G,C,A,E,J,i⟩:=h.lies;obtain⟨L,_,_,_,u,_⟩:=rt i.row;have b:=i.puts.look_ok (k:=(n:Int)) intT mz (u8sZ w) (by unfold InZ;have:=M.2.1;omega);rcases i.secs.get (k:=(n:Int)) with⟨g,d⟩|⟨v,D,g,d,t⟩
 .unfold hasZ at b;rw[g]at b;have r:Hid (secT x s n=secE s n):=by show _=_;unfold secT;rw[d];rfl
  rw[show ((none:Option Value).getD (.slice none 0 0))=.slice none 0 0 from rfl,show ((none:Option Value).isSome)=false from rfl]at b;have m:=za (KN N n (by have j:=M.2.2;rw[d]at j;rcases j with j|j<;>first|omega|cases j));clear h N i g d M;go_enter func137,ntmps137;go_wp2_with fail
  refine m.o.mono ?_;rintro e y ⟨l,rfl,c⟩;have q:=za c;clear c;go_wp2;go_ret;rw[r.o];exact⟨l,rfl,q.o⟩
 .unfold hasZ at b;rw[g]at b;have r:Hid (secT x s n=D):=by show _=_;unfold secT;rw[d];rfl
  rw[show ((some v).getD (.slice none 0 0))=v from rfl,show ((some v).isSome)=true from rfl]at b;have f:D.length=64:=by obtain⟨_,_,_,_,z,_⟩:=t;exact z
  have p:=za (Zt v D w t.at (by omega) (by omega));clear h N i g d t f M;go_enter func137,ntmps137;go_wp2_with fail
  refine p.o.mono ?_;rintro e y ⟨l,rfl,c⟩;have q:=za c;clear c;go_wp2;go_ret;rw[r.o];exact⟨l,rfl,q.o⟩
theorem Kv (h:TxAt w B F gt (gf,()) x T) (hf:FsAt w gf s F1 a) (X:Pn) (q) (n c) (hX:vT w (.slice q n c) X.P) (k:Nat) (hk:k<8) (hP:∀p∈X.P,PtR x s p) (ae:X.P.length<=8):
 Calls prog 88 #[(gt,()),.agg #[X.k,X.m,X.u,X.g,X.s,X.l,X.up,.slice q n c],k] w (l7 (rj x s X.P k) w):=by
 obtain⟨p,cp,hv,b⟩:=Z6 hX;injection hv with e1 O e3;subst e1 e3;have J:=za O.symm;clear O;rw[J.o]at b ae;have f:Hid (Below w w (w.alloc (.cells #[X.k,X.m,X.u,X.g,X.s,X.l,X.up,(q,n,c)] 123))):=zB.alloc zL _;have U:=za (h.below f.o);have L:=za (hf.below f.o);obtain⟨Z,E⟩:=zA (List.replicate 64 (0:Int));have Y:∀W,(Instr.makeSlice 56 (.int .i64 64) (.int .i64 64)).run prog W=.ok (.slice (some ⟨W.heap.size,0,none⟩) 64 64) (W.alloc (.cells (u8s Z).toArray 5)):=fun W=>by rw[E.o];exact jB 64 64 rfl (by omega) W
 have A:Hid (rj x s X.P k=Z->l7 (rj x s X.P k) w (.returned (.slice (some ⟨(w.alloc (.cells #[X.k,X.m,X.u,X.g,X.s,X.l,X.up,(q,n,c)] 123)).heap.size,0,none⟩) 64 64)) ((w.alloc (.cells #[X.k,X.m,X.u,X.g,X.s,X.l,X.up,(q,n,c)] 123)).alloc (.cells (u8s Z).toArray 5))):=fun I=>by
  have C:Z.length=64:=by rw[E.o];simp
  refine l7.bump f.o ⟨_,rfl,_,64,_,by rw[I,C],⟨zL,by rw[I,C];exact zL⟩,zH,?_,zB.alloc zL _⟩;rw[I,zv (by rw[xX,uo];exact zL)]
 by_cases G:n<=k
 .have D:Hid (rj x s X.P k=Z):=by show _=_;unfold rj;rw[zi,yj (by rw[J.o];exact G),show (none:Option Int).getD 0=0 from rfl,ze rfl,E.o]
  have R:decide (n<=(k:Int))=true:=ya (by omega);have Q:n<=(k:Int):=by omega
  clear h hf hX b;go_enter func88,ntmps88;go_wp2;go_ret;simpa using A.o D.o
 .have d:k<X.P.length:=by rw[J.o];omega
  obtain⟨H,op,rfl,r⟩:=b.o (by omega);have N:=r k _ (mu X.P k d);have M:=zG N;have aa:¬H=w.heap.size:=by show ¬H=w.heap.size;have h2:H<w.heap.size:=M;omega
  have t:=hP _ (zx d);have j:X.P.getD k 0=X.P[k]:=by rw[zi,zh d];rfl
  have R:decide (n<=(k:Int))=false:=zz (by omega);have Q:¬n<=(k:Int):=by omega
  have d3:k<(n:Int):=by omega
  obtain⟨y,Hy⟩:=zD (X.P[k]' d);rw[Hy.o]at N t j;by_cases i:y=0
  .subst i;have D:Hid (rj x s X.P k=Z):=(by show _=_;unfold rj;rw[j,ze rfl,E.o]);clear h hf hX b r;go_enter func88,ntmps88;go_wp2;go_ret;simpa using A.o D.o
  .have b0:(y==0)=false:=(by simpa using i);obtain⟨p,K⟩:∃p:Nat,Hid (y=(p:Int)):=⟨y.toNat,by show _=_;have:=t.1;omega⟩;have D:Hid (rj x s X.P k=secT x s p):=(by show _=_;unfold rj;rw[j,zb i,K.o];rfl);have z:=za (Nt U.o L.o p (by rw[<-K.o];exact t));rw[<-K.o]at z;clear h hf hX b r i;go_enter func88,ntmps88;go_wp2_with fail
   refine z.o.mono ?_;intro e w1 V;obtain⟨S,rfl,v⟩:=V;have HV:=za v;clear v;go_wp2;go_ret;rw[D.o];exact l7.bump f.o ⟨S,rfl,HV.o⟩
theorem oX (h:FsAt w gf s F a) (i) (hi:i<32) (X) (hX:s.nodes[i]?=some X):
 ∃gn on cn yq yn yc,w.cell? (gf,195)=some (.slice (some ⟨gn,on,none⟩) 32 cn)/\gn<w.heap.size /\
  w.cell? ⟨gn,on+i*8,none⟩=some (.int .i64 X.k)/\w.cell? ⟨gn,on+i*8+1,none⟩=some (.int .i64 X.m)/\w.cell? ⟨gn,on+i*8+2,none⟩=some (.int .i64 X.u)/\w.cell? ⟨gn,on+i*8+3,none⟩=some (.int .i64 X.g) /\
  w.cell? ⟨gn,on+i*8+4,none⟩=some (.int .i64 X.s)/\w.cell? ⟨gn,on+i*8+5,none⟩=some (.int .i64 X.l)/\w.cell? ⟨gn,on+i*8+6,none⟩=some (.int .i64 X.up)/\w.cell? ⟨gn,on+i*8+7,none⟩=some (.slice yq yn yc) /\
  Out F w (fun w'=>vT w' (yq,yn,yc) X.P):=by
 obtain⟨⟨gl,rv,nv,bt,bh,E,tl,FD,Q,h2,h3,h4,h5,h6,h7,U,z,L,S,M,D,G,N,T,J⟩,a1,Z,a3,a4,a5,a6,a7⟩:=h;obtain⟨_,_,_,d,_,_⟩:=nw Q;have q:E.length=32:=by rw[z.1];exact Z
 obtain⟨p2,j,e,x⟩:=jT U.now;rw[q]at e x;subst e;obtain⟨g,o,rfl,I,R⟩:=x.o (by omega);have c:i<E.length:=by omega
 have b:i<s.nodes.length:=by omega
 obtain⟨r,A,y,B,C,t,v,H⟩:=mN R i c;have f:=z.2 i c b;have p:s.nodes[i]=X:=by rw[zh b]at hX;injection hX
 rw[p]at f;obtain⟨K,O,Y,f3,f4,V,W,n⟩:=f;rw[K]at r;rw[O]at A;rw[Y]at y;rw[f3]at B;rw[f4]at C;rw[V]at t;rw[W]at v;exact⟨g,o,j,_,_,_,d,I,r,A,y,B,C,t,v,H,n⟩
theorem Zf (h:FsAt w gf s F a) (i:Nat) (D:i<32) (X) (C:s.nodes[i]?=some X):
 Calls prog 73 #[(gf,()),.int .i64 (i+1)] w (fun e w'=>e=.returned (.bool (decide (X.k≠0)))/\w=w'):=by
 obtain⟨z,r,v,B,q,t,c,l,g,_⟩:=oX h i D X C;have x:IntKind.i64.wrap (i+1-1)=i:=by rw[zQ _ (by omega)];omega
 have j:1<=(i:Int)+1:=by omega
 have f:(i:Int)+1<=32:=by omega
 have n:=ya j;have A:=ya f;obtain⟨y,m⟩:=zD X.k;rw[m.o]at g ⊢;clear h C;by_cases b:y=0
 .subst b;go_enter func73,ntmps73;go_wp2;go_ret;simp
 .have u:(y==0)=false:=by simpa using b
  have p:(y != 0)=true:=by simpa using b
  have d:decide (y≠0)=true:=ya b;rw[d];go_enter func73,ntmps73;go_wp2;go_ret;simp
theorem VX (h:FsAt w gf s F a) (i:Nat) (B:i<32) (X) (A:s.nodes[i]?=some X):
 Calls prog 66 #[(gf,()),.int .i64 (i+1)] w (fun e w'=>e=.returned (.int .i64 (if X.k=0 then 4 else if X.k=2 then 0 else 12))/\w=w'):=by
 have b:=za (Zf h i B X A);obtain⟨x,q,u,z,p,r,g,l,j,_⟩:=oX h i B X A;have v:IntKind.i64.wrap (i+1-1)=i:=by rw[zQ _ (by omega)];omega
 obtain⟨y,m⟩:=zD X.k;rw[m.o]at j b ⊢;clear h A;by_cases d:y=0
 .subst d;go_enter func66,ntmps66;go_wp2_with fail
  refine b.o.mono ?_;rintro e f ⟨rfl,rfl⟩;go_wp2;go_ret;simp
 .rw[show decide (y≠0)=true from ya d]at b;rw[zb d];by_cases c:y=2
  .subst c;go_enter func66,ntmps66;go_wp2_with fail
   refine b.o.mono ?_;rintro e f ⟨rfl,rfl⟩;go_wp2;go_ret;simp
  .have t:(y==2)=false:=(by simpa using c);have n:(y != 2)=true:=(by simpa using c);rw[zb c];go_enter func66,ntmps66;go_wp2_with fail
   refine b.o.mono ?_;rintro e f ⟨rfl,rfl⟩;go_wp2;go_ret;simp
theorem ZL (h:FsAt w gf s F a) (i:Nat) (B:i<32) (X) (A:s.nodes[i]?=some X):
 Calls prog 80 #[(gf,()),.int .i64 (i+1)] w (fun e w'=>e=.returned (.int .i64 (if X.k=0 then 4 else if X.k=1 then 0 else 12))/\w=w'):=by
 have b:=za (Zf h i B X A);obtain⟨x,q,u,z,p,r,g,l,j,_⟩:=oX h i B X A;have v:IntKind.i64.wrap (i+1-1)=i:=by rw[zQ _ (by omega)];omega
 obtain⟨y,m⟩:=zD X.k;rw[m.o]at j b ⊢;clear h A;by_cases d:y=0
 .subst d;go_enter lI,nP;go_wp2_with fail
  refine b.o.mono ?_;rintro e f ⟨rfl,rfl⟩;go_wp2;go_ret;simp
 .rw[show decide (y≠0)=true from ya d]at b;rw[zb d];by_cases c:y=1
  .subst c;go_enter lI,nP;go_wp2_with fail
   refine b.o.mono ?_;rintro e f ⟨rfl,rfl⟩;go_wp2;go_ret;simp
  .have t:(y==1)=false:=(by simpa using c);have n:(y != 1)=true:=(by simpa using c);rw[zb c];go_enter lI,nP;go_wp2_with fail
   refine b.o.mono ?_;rintro e f ⟨rfl,rfl⟩;go_wp2;go_ret;simp
theorem kV (u g) (k:0<=u/\u<=255) (l:0<=g/\g<=255) (w):
 Calls prog 101 #[.int .i64 u,.int .i64 g] w (fun e w'=>e=.returned (.bool true)/\w=w'):=by
 obtain⟨d,c⟩:=k;obtain⟨b,a⟩:=l;have j:=ya d;have f:=ya c;have i:=ya b;have h:=ya a;go_enter func101,ntmps101;go_wp2;go_ret;simp
theorem JV: prog.underlying 108=some (.slice 123):=by kernel_rfl
theorem Lb (l):∀u∈uG l,u.oneCell'=true:=by intro u a;unfold uG at a;obtain⟨x,_,a⟩:=vA.1 a;simp[nd8]at a;rcases a with rfl|rfl|rfl|rfl|rfl|rfl|rfl|rfl<;>rfl
theorem Lc (l):(uG l).length=l.length*8:=by
 induction l with
 | nil=>rfl
 | cons x l a=>simp only[uG,xo,zm,yx,nd8,xS]at *;omega
def Yx (B:Nat) (l:List Nd) (w:World) (e:Ending) (w':World):Prop:=∃v,e=.returned v/\w'.ownsRow B 123 8 v l.length (uG l)/\Below B w w'/\w.heap.size<=w'.heap.size
theorem LY (v) (l) (w) (h:wh w v 8 l.length (uG l)) (T:l.length<=1000000):
 Calls prog 116 #[v] w (Yx w l w):=by
 obtain⟨N,H,m,p,q⟩:=xy Ym;have P:=za H;have C:=za m;have D:=za p;have A:=za q;clear H m p q;obtain⟨n,e⟩:=zA l.length;obtain⟨a,c,O,B⟩:∃a c,v=.slice a n c/\Hid (∀d,a=some d->∀j u,(uG l)[j]?=some u->w.cell? (d.add j)=some u)/\(a=none->n=0):=by
  obtain⟨S,⟨I,a,c,rfl⟩|⟨g,o,c,rfl,Q⟩⟩:=h
  .refine⟨a,c,by rw[e.o,I],fun d _ j u x=>?_,fun _=>by rw[e.o];exact I⟩;have:=(zJ.1 x).1;omega
  .refine⟨_,c,by rw[e.o],fun d J j u x=>?_,fun h=>by cases h⟩;cases J;have s:(⟨g,o,none⟩:Addr).add j=⟨g,o+j,none⟩:=(by unfold Addr.add;split<;>simp_all);rw[s];exact Q j u x
 obtain⟨B,F⟩:=B;subst O;have i:(uG l).length=n*8:=by rw[Lc,<-e.o]
 have t:=za i;rw[<-e.o]at T;clear i h;unfold Yx;rw[<-e.o];have M:∀(w) (a) (n c y z),(binOp .eql 108 (.slice a n c) (.slice none y z)).run prog w=.ok (.bool a.isNone) w:=fun w a n c y z=>qh w _ _ a n c y z JV;cases a with
 | none=>
  have E:=za (F rfl);clear F;go_enter func116,ntmps116;go_wp2;go_ret;exact⟨_,rfl,⟨t.o,zr ⟨rfl,E.o⟩⟩,zB,zL⟩
 | some d=>
  clear F;go_enter func116,ntmps116;go_wp2_with (at_builtin;refine yI _ rfl _ _ 108 rfl w.heap.size 123 N _ 8 80 JV P.o C.o D.o A.o rfl (by decide) _ _ _ rfl (uW w #[] 0 zL zZ rfl) d n c (uG l) rfl ?qc1 ?qc2 ?qc3 ?qc4 ?qc5 ?qc6 ?_)
  case qc1=>exact t.o
  case qc2 =>intro j u x;have:=B.o d rfl j u x;rw[wN _ _ _ (zG this)];exact this
  case qc3=>exact Lb l
  case qc4=>unfold maxLen;omega
  case qc5=>omega
  case qc6=>simp
  intro K R f b r;have G:=((x9 _ w).alloc zL _).grown b (by simp) (by intro k L;simp[Value.ownBlock]at L;omega);clear b r;go_wp2;go_ret;exact⟨K,rfl,f,G,G.size⟩
theorem ML: ∃Z PL:Array _,Z.size=200/\PL[0]?=some (0,1)/\PL[1]?=some (1,192)/\PL[2]?=some (193,1)/\PL[3]?=some (194,1)/\PL[4]?=some (195,1)/\PL[5]?=some (196,1)/\PL[8]?=some (199,1)/\Z[197]?=some (.slice none 0 0)/\Z[198]?=some (.bool false) /\
 ∀parts,prog.built 118 parts=Instr.fill (PL[·]?) Z parts:=
 ⟨((prog.info? 118).bind (·.zero)).get!.cells,#[(0,1),(1,192),(193,1),(194,1),(195,1),(196,1),(197,1),(198,1),(199,1)],by kernel_rfl,rfl,rfl,rfl,rfl,rfl,rfl,rfl,by kernel_rfl,by kernel_rfl,fun _=>by kernel_rfl⟩
theorem ny {n:Nat} {place:Nat->Option (Nat×Nat)} {cells:Array Value} {k:Nat} (v) {rest:List (Nat×Value)} (off) (A) (b:v.cells=A) (c:place k=some (off,A.size)) (d:cells.size=n) (a:off+A.size<=n):
 ∃cs,cs.size=n/\(∀i,cs[i]?=if off<=i/\i<off+A.size then A[i-off]? else cells[i]?)/\Instr.fill place cells ((k,v)::rest)=Instr.fill place cs rest:=by
 subst b d;exact⟨n8 cells off v.cells,NQ _ _ _,PM _ _ _ a,Qz off _ c rfl a⟩
theorem Ni (p) (fo) (q2 q3) (n2 n3 c2 c3 gd gp):prog.built 118 [(0,.pointer (some p)),(1,.agg (encF fo)),(2,.slice q2 n2 c2),(3,.slice q3 n3 c3),(4,.map (some gd)),(5,.map (some gp)),(8,.int .i64 256)] =
 some (txR (.pointer (some p)) fo (.slice q2 n2 c2) (.slice q3 n3 c3) (.map (some gd)) (.map (some gp)) (.slice none 0 0) false 256):=by
 obtain⟨Z,a,P,C,y,l,e,g,f,u,J,R,q⟩:=ML;have b:=uj fo;have r:∀i,1<=i->i<193->(encF fo)[i-1]?=some (uU fo ((i-1) / 48) ((i-1)%48)):=fun i L W=>by
  have:=rk fo ((i-1) / 48) ((i-1)%48) (by omega) (by omega)
  rwa [show (i-1) / 48*48+(i-1)%48=i-1 by omega]at this
 generalize encF fo=A at b r ⊢;obtain⟨M,O,z,D⟩:=ny (n:=200) (place:=(a[·]?)) (k:=0) (cells:=Z) (rest:=[(1,.agg A),(2,.slice q2 n2 c2),(3,.slice q3 n3 c3),(4,.map (some gd)),(5,.map (some gp)),(8,.int .i64 256)]) (.pointer (some p)) 0 #[.pointer (some p)] rfl C P (by simp);obtain⟨c,K,s,v⟩:=ny (n:=200) (place:=(a[·]?)) (k:=1) (cells:=M) (rest:=[(2,.slice q2 n2 c2),(3,.slice q3 n3 c3),(4,.map (some gd)),(5,.map (some gp)),(8,.int .i64 256)]) (.agg A) 1 A rfl (by rw[b];exact y) O (by rw[b];omega);obtain⟨d,S,G,E⟩:=ny (n:=200) (place:=(a[·]?)) (k:=2) (cells:=c) (rest:=[(3,.slice q3 n3 c3),(4,.map (some gd)),(5,.map (some gp)),(8,.int .i64 256)]) (q2,n2,c2) 193 #[(q2,n2,c2)] rfl l K (by simp);obtain⟨U,I,x,F⟩:=ny (n:=200) (place:=(a[·]?)) (k:=3) (cells:=d) (rest:=[(4,.map (some gd)),(5,.map (some gp)),(8,.int .i64 256)]) (q3,n3,c3) 194 #[(q3,n3,c3)] rfl e S (by simp);obtain⟨N,V,B,h⟩:=ny (n:=200) (place:=(a[·]?)) (k:=4) (cells:=U) (rest:=[(5,.map (some gp)),(8,.int .i64 256)]) (.map (some gd)) 195 #[.map (some gd)] rfl g I (by simp);obtain⟨T,H,j,t⟩:=ny (n:=200) (place:=(a[·]?)) (k:=5) (cells:=N) (rest:=[(8,.int .i64 256)]) (.map (some gp)) 196 #[.map (some gp)] rfl f V (by simp);obtain⟨Y,X,w,m⟩:=ny (n:=200) (place:=(a[·]?)) (k:=8) (cells:=T) (rest:=[]) (.int .i64 256) 199 #[(256:Int)] rfl u H (by simp);rw[q];rw[D];rw[v];rw[E];rw[F];rw[h];rw[t];rw[m];rw[Instr.fill];refine zV some ?_;clear D v E F h t m q C y l e g f u;apply xa;intro i;by_cases Q:i<200
 .rw[qt _ _ _ _ _ _ _ _ _ _ Q];simp only[uz,yx,xS,b]at z s G x B j w;rw[w,j,B,x,G,s,z];unfold pT;by_cases L:193<=i
  .have:i=193\/i=194\/i=195\/i=196\/i=197\/i=198\/i=199:=(by omega);rcases this with rfl|rfl|rfl|rfl|rfl|rfl|rfl<;>simp[J,R]
  .rw[zb (by omega),zb (by omega),zb (by omega),zb (by omega),zb (by omega)];by_cases o:i=0
   .subst o;simp
   .rw[ze (by omega),zb o,ze (by omega)];exact r i (by omega) (by omega)
 .rw[yd (by omega),yd (by rw[pi];omega)]
def bgF (w:World) (gf:Nat) (A:Array Value) (rv nv:Value) (E:List Nd) (fo:Fo) (i:Nat) (v:Value) (u:World):Prop:=
 if i=3 then v=.pointer (some ⟨gf,2,none⟩) else if i=4 then v=.agg A else if i=7 then v=.pointer (some ⟨gf,194,none⟩) else if i=8 then v=rv else if i=11 then v=.pointer (some ⟨gf,195,none⟩) else if i=12 then v=nv
 else if i=13 then u.ownsRow w.heap.size 123 8 v E.length (uG E)
 else if i=14\/i=15 then ∃g,v=.map (some g)/\w.heap.size<=g/\MapL prog 3 u g []
 else if i=16 then ∃n c gd gp,v=.agg (txR (gf,()) fo rv (.slice (some ⟨n,0,none⟩) 32 c) (.map (some gd)) (.map (some gp)) (.slice none 0 0) false 256)/\u.ownsRow w 123 8 (.slice (some ⟨n,0,none⟩) 32 c) 32 (uG E) /\
  w.heap.size<=gd/\w.heap.size<=gp/\gd≠gp/\MapL prog 3 u gd []/\MapL prog 3 u gp []
 else if i=17\/i=18 then ∃gt n c gd gp,v=.pointer (some ⟨gt,0,none⟩)/\w.heap.size<=gt/\u.heap[gt]?=some (.cells (txR (gf,()) fo rv (.slice (some ⟨n,0,none⟩) 32 c) (.map (some gd)) (.map (some gp)) (.slice none 0 0) false 256) 118)/\u.ownsRow w 123 8 (.slice (some ⟨n,0,none⟩) 32 c) 32 (uG E) /\
  w.heap.size<=gd/\w.heap.size<=gp/\gd≠gp/\MapL prog 3 u gd []/\MapL prog 3 u gp []
 else v=.pointer (some ⟨gf,0,none⟩)
theorem Q5 {A:Array Value} {rv nv:Value} {E:List Nd} {fo:Fo} (j) (v) (u u' : World) (r : Below u u u') (h:bgF w gf A rv nv E fo j v u):bgF w gf A rv nv E fo j v u':=by
 unfold bgF at h ⊢;by_cases c:j=3
 .rw[ze c]at h ⊢;exact h
 rw[zb c]at h ⊢;clear c;by_cases c:j=4
 .rw[ze c]at h ⊢;exact h
 rw[zb c]at h ⊢;clear c;by_cases c:j=7
 .rw[ze c]at h ⊢;exact h
 rw[zb c]at h ⊢;clear c;by_cases c:j=8
 .rw[ze c]at h ⊢;exact h
 rw[zb c]at h ⊢;clear c;by_cases c:j=11
 .rw[ze c]at h ⊢;exact h
 rw[zb c]at h ⊢;clear c;by_cases c:j=12
 .rw[ze c]at h ⊢;exact h
 rw[zb c]at h ⊢;clear c;by_cases c:j=13
 .rw[ze c]at h ⊢;exact tB h r
 rw[zb c]at h ⊢;clear c;by_cases c:j=14\/j=15
 .rw[ze c]at h ⊢;obtain⟨g,e,d,a⟩:=h;exact⟨g,e,d,a.of_block (r.block _ a.lt)⟩
 rw[zb c]at h ⊢;clear c;by_cases c:j=16
 .rw[ze c]at h ⊢;obtain⟨n,c,l,i,e,d,a,m,k,f,b⟩:=h;exact⟨n,c,l,i,e,tB d r,a,m,k,f.of_block (r.block _ f.lt),b.of_block (r.block _ b.lt)⟩
 rw[zb c]at h ⊢;clear c;by_cases c:j=17\/j=18
 .rw[ze c]at h ⊢;obtain⟨o,n,c,l,i,e,q,p,d,a,m,k,f,b⟩:=h;exact⟨o,n,c,l,i,e,q,wy r p,tB d r,a,m,k,f.of_block (r.block _ f.lt),b.of_block (r.block _ b.lt)⟩
 rw[zb c]at h ⊢;clear c;exact h
theorem oA (h:FsAt w gf s F a):
 Calls prog 63 #[(gf,())] w (fun e w'=>∃gt T,e=.returned (gt,())/\Below w w w'/\TxAt w' w F gt (gf,()) ⟨s.fo,s.rows,s.nodes,[],[],[],false,256⟩ T):=by
 have H:=za h;obtain⟨⟨gl,rv,P,bt,bh,E,tl,FD,L,h2,h3,h4,h5,h6,h7,h8,h9,ap,aC,ay,ae,af,aj,al,ax⟩,a1,a2,a3,a4,a5,a6,a7⟩:=h;obtain⟨k0,k1,W,Q,aK,aH⟩:=nw L;have hE:E.length=32:=by rw[h9.1];exact a2
 obtain⟨qr,cr,ag⟩:∃qr cr,rv=.slice qr s.rows.length cr:=by
  obtain⟨_,⟨x,a0,c0,rfl⟩|⟨g,o,c,rfl,_⟩⟩:=h7.now
  .exact⟨a0,c0,by rw[x]⟩
  .exact⟨_,_,rfl⟩
 obtain⟨A,HA⟩:=zA (encF s.fo);have aD:Hid (A.size=192):=by rw[HA.o];exact uj _
 obtain⟨R,HR⟩:=zD (fsR (.pointer (some a)) (gl,()) s.fo rv P (.map (some bt)) (.map (some bh)));have aw:Hid (∀j,j<A.size->R[2+j]?=A[j]?):=by rw[<-HR.o,HA.o];exact hQ _ _ _ _ _ _ _
 rw[HR.o]at L;have t:=za L;have H8:=za h8;have H7:=za h7;have H9:=za h9;clear h2 h3 h4 h5 h6 ap aC ay ae af aj al ax a1 a2 a3 a4 a5 a6 L h7 h8 h9;go_enter func63,ntmps63
 go_upto_region 1 with fail
 refine Gz (by kernel_rfl) (by kernel_rfl) (fun u u'=>Below u u u') (zB.drew) (fun u u' L h2=>zf L h2) 21 (fun i=>if i=18 then 2 else i+3) (bgF w gf A rv P E s.fo) (fun i j=>(i=14/\j=15)\/(i=15/\j=14)) (fun k v=>k=0/\v=.pointer (some ⟨gf,0,none⟩)) Q5 (by omega) (fun i j bi=>?_) (fun i k v hk=>?_) (by kernel_rfl) ⟨rfl,rfl,fun k v hk=>?_⟩ ?_ ?_
 .split<;>split<;>omega
 .split<;>omega
 .obtain⟨rfl,rfl⟩:=hk;rfl
 .intro D b u l i o d m f;have y:=l.old 0 _ ⟨rfl,rfl⟩
  match i,d,m,f with
  | 0,d,m,f=>
   simp only[zk,zw]at d;subst d;exact qD (.tmp 0) rfl ⟨_,rfl,zB,y,by omega⟩
  | 1,d,m,f=>
   simp only[zk,zl,zw]at d;subst d;exact qD (.tmp 0) rfl ⟨_,rfl,zB,y,by omega⟩
  | 2,d,m,f=>
   simp only[zk,zl,zw]at d;subst d;have e1:=l.fact 1 (f ⟨1,.data⟩ (by simp) rfl);exact mw (.tmp 4) rfl ⟨gf,0,none⟩ e1 ⟨_,rfl,zB,rfl,by omega⟩
  | 3,d,m,f=>
   simp only[zk,zl,zw]at d;subst d;have e2:=l.fact 2 (f ⟨2,.data⟩ (by simp) rfl);exact sV (v:=.pointer (some ⟨gf,2,none⟩)) (w':=u) (by unfold execOp;simp only[Act.eval];rw[show b.tmps.getD 5 undef=_ from e2];simp[go_sem]) ⟨_,rfl,zB,rfl,by omega⟩
  | 4,d,m,f=>
   simp only[zk,zl,zw]at d;subst d;have e3:=l.fact 3 (f ⟨3,.data⟩ (by simp) rfl);refine wp_load_mid 106 (.tmp 6) rfl gf 2 e3 A.toList _ (fun j v x=>?_) forT rfl (by rw[yv,aD.o];exact forI) ?_
   .have an:j<A.size:=(by have:=(zJ.1 x).1;simpa using this);rw[zC (wy l.b t.o),aw.o j an,<-x,zO]
   .exact⟨_,rfl,zB,rfl,by omega⟩
  | 5,d,m,f=>
   simp only[zk,zl,zw]at d;subst d;exact qD (.tmp 0) rfl ⟨_,rfl,zB,y,by omega⟩
  | 6,d,m,f=>
   simp only[zk,zl,zw]at d;subst d;have e5:=l.fact 5 (f ⟨5,.data⟩ (by simp) rfl);exact mw (.tmp 8) rfl ⟨gf,0,none⟩ e5 ⟨_,rfl,zB,rfl,by omega⟩
  | 7,d,m,f=>
   simp only[zk,zl,zw]at d;subst d;have e6:=l.fact 6 (f ⟨6,.data⟩ (by simp) rfl);exact sV (v:=.pointer (some ⟨gf,194,none⟩)) (w':=u) (by unfold execOp;simp only[Act.eval];rw[show b.tmps.getD 9 undef=_ from e6];simp[go_sem]) ⟨_,rfl,zB,rfl,by omega⟩
  | 8,d,m,f=>
   simp only[zk,zl,zw]at d;subst d;have e7:=l.fact 7 (f ⟨7,.data⟩ (by simp) rfl);have r:=(l.b.cell (p:=⟨gf,194,none⟩) (xR t.o)).trans W;exact sV (v:=rv) (w':=u) (by unfold execOp;simp only[Act.eval];rw[show b.tmps.getD 10 undef=_ from e7];simp[go_sem,r]) ⟨_,rfl,zB,rfl,by omega⟩
  | 9,d,m,f=>
   simp only[zk,zl,zw]at d;subst d;exact qD (.tmp 0) rfl ⟨_,rfl,zB,y,by omega⟩
  | 10,d,m,f=>
   simp only[zk,zl,zw]at d;subst d;have e9:=l.fact 9 (f ⟨9,.data⟩ (by simp) rfl);exact mw (.tmp 12) rfl ⟨gf,0,none⟩ e9 ⟨_,rfl,zB,rfl,by omega⟩
  | 11,d,m,f=>
   simp only[zk,zl,zw]at d;subst d;have az:=l.fact 10 (f ⟨10,.data⟩ (by simp) rfl);exact sV (v:=.pointer (some ⟨gf,195,none⟩)) (w':=u) (by unfold execOp;simp only[Act.eval];rw[show b.tmps.getD 13 undef=_ from az];simp[go_sem]) ⟨_,rfl,zB,rfl,by omega⟩
  | 12,d,m,f=>
   simp only[zk,zl,zw]at d;subst d;have aA:=l.fact 11 (f ⟨11,.data⟩ (by simp) rfl);have r:=(l.b.cell (p:=⟨gf,195,none⟩) (xR t.o)).trans Q;exact sV (v:=P) (w':=u) (by unfold execOp;simp only[Act.eval];rw[show b.tmps.getD 14 undef=_ from aA];simp[go_sem,r]) ⟨_,rfl,zB,rfl,by omega⟩
  | 13,d,m,f=>
   simp only[zk,zl,zw]at d;subst d;have a9:=l.fact 12 (f ⟨12,.data⟩ (by simp) rfl);refine jn 116 #[.tmp 15] #[108] rfl (fun _ _=>by kernel_rfl) #[P] (by simp only[uN,yF,vY,Act.eval];rw[show b.tmps.getD 15 undef=_ from a9];rfl) (fun v w'=>w'.ownsRow u 123 8 v E.length (uG E)/\Below u u w')
    ((LY P E u (H8.o.now.below l.b) (by omega)).mono fun e w' ⟨v,he,x1,x2,_⟩=>⟨v,he,x1,x2⟩) ?_
   intro v w' x;exact⟨_,rfl,x.2,mx x.1 l.b.size,by omega⟩
  | 14,d,m,f=>
   simp only[zk,zl,zw]at d;subst d;refine Hk _ rfl ⟨_,rfl,zB.alloc zL _,⟨_,rfl,l.b.size,tH _⟩,fun j hj I=>?_⟩;obtain rfl:j=15:=(by omega);obtain⟨g,hg,_,hm⟩:=l.fact 15 I;rw[hg];have:=hm.lt;intro r;injection r with r;injection r with r;omega
  | 15,d,m,f=>
   simp only[zk,zl,zw]at d;subst d;refine Hk _ rfl ⟨_,rfl,zB.alloc zL _,⟨_,rfl,l.b.size,tH _⟩,fun j hj I=>?_⟩;obtain rfl:j=14:=(by omega);obtain⟨g,hg,_,hm⟩:=l.fact 14 I;rw[hg];have:=hm.lt;intro r;injection r with r;injection r with r;omega
  | 16,d,m,f=>
   simp only[zk,zl,zw]at d;subst d;have e0:=l.fact 0 (f ⟨0,.data⟩ (by simp) rfl);have e4:=l.fact 4 (f ⟨4,.data⟩ (by simp) rfl);have e8:=l.fact 8 (f ⟨8,.data⟩ (by simp) rfl);have ah:=f ⟨13,.data⟩ (by simp) rfl;have X:=f ⟨14,.data⟩ (by simp) rfl;have aa:=f ⟨15,.data⟩ (by simp) rfl;have G:u.ownsRow w 123 8 (b.tmps.getD 16 undef) E.length (uG E):=l.fact 13 ah;obtain⟨gd,Y,M,am⟩:∃g,b.tmps.getD 17 undef=.map (some g)/\w.heap.size<=g/\MapL prog 3 u g []:=l.fact 14 X;obtain⟨gp,O,V,a8⟩:∃g,b.tmps.getD 18 undef=.map (some g)/\w.heap.size<=g/\MapL prog 3 u g []:=l.fact 15 aa;have N:b.tmps.getD 17 undef≠b.tmps.getD 18 undef:=l.ne 14 15 (zr ⟨rfl,rfl⟩) X aa;rw[Y,O]at N;obtain⟨n,c,B⟩:∃n c,b.tmps.getD 16 undef=.slice (some ⟨n,0,none⟩) 32 c:=by
    obtain⟨_,⟨x,h0⟩|⟨g,c,aY,x,_⟩⟩:=id G
    .omega
    .exact⟨g,c,by rw[x,hE]⟩
   rw[B,hE]at G;refine Ip _ _ rfl #[(0,.pointer (some ⟨gf,0,none⟩)),(1,.agg A),(2,rv),(3,.slice (some ⟨n,0,none⟩) 32 c),(4,.map (some gd)),(5,.map (some gp)),(8,.int .i64 256)] ?_ (txR (gf,()) s.fo rv (.slice (some ⟨n,0,none⟩) 32 c) (.map (some gd)) (.map (some gp)) (.slice none 0 0) false 256) ?_ ?_
   .simp only[uN,yF,vY,Act.eval];rw[show b.tmps.getD 3 undef=_ from e0,show b.tmps.getD 7 undef=_ from e4,show b.tmps.getD 11 undef=_ from e8,B,Y,O]
   .rw[HA.o,ag];exact Ni _ _ _ _ _ _ _ _ _ _
   .exact⟨_,rfl,zB,⟨n,c,gd,gp,rfl,G,M,V,fun r=>N (by rw[r]),am,a8⟩,by omega⟩
  | 17,d,m,f=>
   simp only[zk,zl,zw]at d;subst d;obtain⟨n,c,gd,gp,aq,q1,Z,q3,q4,q5,S⟩:=l.fact 16 (f ⟨16,.data⟩ (by simp) rfl);have z:Below u u (u.alloc (.cells (txR (gf,()) s.fo rv (.slice (some ⟨n,0,none⟩) 32 c) (.map (some gd)) (.map (some gp)) (.slice none 0 0) false 256) 118)):=zB.alloc zL _;exact Wh 118 (.tmp 19) rfl _ aq ⟨_,rfl,z,⟨_,n,c,gd,gp,rfl,l.b.size,zH,tB q1 z,Z,q3,q4,q5.of_block (z.block _ q5.lt),S.of_block (z.block _ S.lt)⟩,by omega⟩
  | 18,d,m,f=>
   simp only[zk,zl,zw]at d;subst d;obtain⟨gt,n,c,gd,gp,aG,q⟩:=l.fact 17 (f ⟨17,.data⟩ (by simp) rfl);exact Jm (.tmp 20) rfl ⟨_,rfl,zB,⟨gt,n,c,gd,gp,aG,q⟩,by omega⟩
 .intro D b u l U;obtain⟨gt,n,c,gd,gp,ai,q0,q1,Z,q3,q4,q5,S,q7⟩:=l.fact 18 (U 18 (by simp));rename_i K hK;have bq:=xR q1;have ba:=(Z.lt n rfl).2;have aO:=(Z.lt n rfl).1;have M:=S.lt;have V:=q7.lt;have C:∀i,i<w.heap.size->(F i\/(i=gt\/i=n\/i=gd\/i=gp))->F i:=fun i hl J=>by
   rcases J with J|J|J|J|J
   .exact J
   all_goals omega
  refine hK _ _ (wp_ret ?_);refine yV (v:=.pointer (some ⟨gt,0,none⟩)) ?_ l.dfs ⟨gt,fun i=>i=gt\/i=n\/i=gd\/i=gp,rfl,l.b,?_⟩
  .have e2:b.tmps.getD 2 undef=.pointer (some ⟨gt,0,none⟩):=ai;have e3:b.tmps[2]?=some (.pointer (some ⟨gt,0,none⟩)):=(by rw[xL (by rw[l.size];omega)];rw[<-e2];simp[l.size]);simp[results,results63,go_sem,e2,e3]
  .refine uV.at (rv:=rv) (gn:=n) (cn:=c) (gd:=gd) (gp:=gp) (gv:=.slice none 0 0) (E:=E) (pl:=[]) ⟨q1,?_,Z,?_,S,q7,tu.nil _ _,q5,⟨rfl,zr ⟨rfl,rfl⟩⟩,zu (zr rfl),zu (zu (zr rfl)),zu (zu (zu rfl)),fun b hb=>by cases hb⟩ (zr rfl) (by rw[<-H9.o.1];exact hE) ?_ ?_ (by simp) (by simp) (by simp) a7 (by simp)
   .exact (H7.o.grow C).below l.b
   .exact (H9.o.grow C).keep (yQ.of_below l.b)
   .rintro i (rfl|rfl|rfl|rfl)<;>assumption
   .rintro i (rfl|rfl|rfl|rfl)<;>assumption
