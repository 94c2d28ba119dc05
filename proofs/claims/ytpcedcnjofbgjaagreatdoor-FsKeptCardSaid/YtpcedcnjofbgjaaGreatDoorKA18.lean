import Derived.Test.YtpcedcnjofbgjaaGreatDoorKA17
set_option maxHeartbeats 0
set_option linter.all false
set_option maxRecDepth 100000
namespace Go.Proofs.YtpcedcnjofbgjaaGreatDoor
open Go.Proofs.Tryz Go.RowKit
variable {B cn g gd gf gn gp gt k n:Nat} {D:List Int} {E:List Nd} {F F1 G T:Nat->Prop} {K:Act->World->Prop} {L:List Pn} {P:Program} {Q:Exit->Act->World->Prop} {a:Addr} {c:Array Value} {fp gv rv v:Value} {fr:Nat×Nat} {o:Oper} {p:Int} {pl:List (Int×Value)} {s:Fs} {st:Dk} {t:TypeId} {w w' w0 w1 w2:World} {α:Type}
theorem sx (h:FsAt w gf s F a) (i) (hi:i<32) (X) (hX:s.nodes[i]?=some X):
 ∃gn on cn yq yn yc,w.cell? (gf,195)=some (.slice (some ⟨gn,on,none⟩) 32 cn)/\gn<w.heap.size /\
  w.cell? ⟨gn,on+i*8,none⟩=some (.int .i64 X.k)/\w.cell? ⟨gn,on+i*8+1,none⟩=some (.int .i64 X.m)/\w.cell? ⟨gn,on+i*8+2,none⟩=some (.int .i64 X.u)/\w.cell? ⟨gn,on+i*8+3,none⟩=some (.int .i64 X.g) /\
  w.cell? ⟨gn,on+i*8+4,none⟩=some (.int .i64 X.s)/\w.cell? ⟨gn,on+i*8+5,none⟩=some (.int .i64 X.l)/\w.cell? ⟨gn,on+i*8+6,none⟩=some (.int .i64 X.up)/\w.cell? ⟨gn,on+i*8+7,none⟩=some (.slice yq yn yc) /\
  Out F w (λw'=>tP w' (yq,yn,yc) X.P):=by
 let⟨⟨gl,rv,nv,bt,bh,E,tl,FD,Q,h2,h3,h4,h5,h6,h7,U,z,L,S,M,D,G,N,T,J⟩,a1,Z,a3,a4,a5,a6,a7⟩:=h;let⟨_,_,_,d,_,_⟩:=sW Q;have q:E.length=32:=by rw[z.1];exact Z
 let⟨p2,j,e,x⟩:=rR U.now;rw[q]at e x;subst e;obtain⟨g,o,rfl,I,R⟩:=x.o (by lia);have c:i<E.length:=by lia
 have b:i<s.nodes.length:=by lia
 let⟨r,A,y,B,C,t,v,H⟩:=sB R i c;have f:=z.2 i c b;have p:s.nodes[i]=X:=by rw[zk b]at hX;injection hX
 rw[p]at f;let⟨K,O,Y,f3,f4,V,W,n⟩:=f;grind
theorem sU (h:FsAt w gf s F a) (i:Nat) (D:i<32) (X) (C:s.nodes[i]?=some X):
 Calls prog 66 #[(gf,()),(i+1:Int)] w (λe w'=>e=.returned (.bool (decide (X.k≠0)))/\w=w'):=by
 let⟨z,r,v,B,q,t,c,l,g,_⟩:=sx h i D X C;have x:IntKind.i64.wrap (i+1-1)=i:=by rw[zM _ (by lia)];lia
 have n:=zX (by omega);have A:=zX (by omega);let⟨y,m⟩:=zD X.k;rw[m.o]at g |-;by_cases b:y=0
 .subst b;go_enter func66,ntmps66;go_wp2;go_ret;simp
 .have u:(y==0)=false:=by simpa using b
  have p:(y != 0)=true:=by simpa using b
  rw[zX b];go_enter func66,ntmps66;go_wp2;go_ret;simp
theorem rn (h:FsAt w gf s F a) (i:Nat) (B:i<32) (X) (A:s.nodes[i]?=some X):
 Calls prog 59 #[(gf,()),(i+1:Int)] w (λe w'=>e=.returned (if X.k=0 then 4 else if X.k=2 then 0 else 12:Int)/\w=w'):=by
 have b:=za (sU h i B X A);let⟨x,q,u,z,p,r,g,l,j,_⟩:=sx h i B X A;have v:IntKind.i64.wrap (i+1-1)=i:=by rw[zM _ (by lia)];lia
 let⟨y,m⟩:=zD X.k;rw[m.o]at j b |-;by_cases d:y=0
 .subst d;go_enter func59,ntmps59;go_wp2_with fail
  refine b.o.mono ?_;rintro e f ⟨rfl,rfl⟩;go_wp2;go_ret;simp
 .rw[show decide (y≠0)=true from zX d]at b;rw[zb d];by_cases c:y=2
  .subst c;go_enter func59,ntmps59;go_wp2_with fail
   refine b.o.mono ?_;rintro e f ⟨rfl,rfl⟩;go_wp2;go_ret;simp
  .have t:(y==2)=false:=(by simpa using c);have n:(y != 2)=true:=(by simpa using c);rw[zb c];go_enter func59,ntmps59;go_wp2_with fail
   refine b.o.mono ?_;rintro e f ⟨rfl,rfl⟩;go_wp2;go_ret;simp
theorem mo (h:FsAt w gf s F a) (i:Nat) (B:i<32) (X) (A:s.nodes[i]?=some X):
 Calls prog 51 #[(gf,()),(i+1:Int)] w (λe w'=>e=.returned (if X.k=0 then 4 else if X.k=1 then 0 else 12:Int)/\w=w'):=by
 have b:=za (sU h i B X A);let⟨x,q,u,z,p,r,g,l,j,_⟩:=sx h i B X A;have v:IntKind.i64.wrap (i+1-1)=i:=by rw[zM _ (by lia)];lia
 let⟨y,m⟩:=zD X.k;rw[m.o]at j b |-;by_cases d:y=0
 .subst d;go_enter func51,ntmps51;go_wp2_with fail
  refine b.o.mono ?_;rintro e f ⟨rfl,rfl⟩;go_wp2;go_ret;simp
 .rw[show decide (y≠0)=true from zX d]at b;rw[zb d];by_cases c:y=1
  .subst c;go_enter func51,ntmps51;go_wp2_with fail
   refine b.o.mono ?_;rintro e f ⟨rfl,rfl⟩;go_wp2;go_ret;simp
  .have t:(y==1)=false:=(by simpa using c);have n:(y != 1)=true:=(by simpa using c);rw[zb c];go_enter func51,ntmps51;go_wp2_with fail
   refine b.o.mono ?_;rintro e f ⟨rfl,rfl⟩;go_wp2;go_ret;simp
theorem jL (u g) (k:0<=u/\u<=255) (l:0<=g/\g<=255) (w):
 Calls prog 68 #[(u:Int),(g:Int)] w (λe w'=>e=.returned (.bool true)/\w=w'):=by
 let⟨d,c⟩:=k;let⟨b,a⟩:=l;have j:=zX d;have f:=zX c;have i:=zX b;have h:=zX a;go_enter func68,ntmps68;go_wp2;go_ret;simp
theorem Sb: prog.underlying 88=some (.slice 102):=rfl
theorem lK (l):∀u∈ue l,u.oneCell'=true:=by intro u a;let⟨x,_,a⟩:=Np.1 a;simp[nd8]at a;rcases a with rfl|rfl|rfl|rfl|rfl|rfl|rfl|rfl<;>rfl
theorem oO (l):(ue l).length=l.length*8:=by
 induction l with
 | nil=>rfl
 | cons x l a=>simp only[ue,Nm,zl,yv,nd8,xC]at *;lia
def LL (B:Nat) (l:List Nd) (w:World) (e:Ending) (w':World):Prop:=∃v,e=.returned v/\w'.ownsRow B 102 8 v l.length (ue l)/\Below B w w'/\w.heap.size<=w'.heap.size
theorem Ux (v) (l) (w) (h:uq w v 8 l.length (ue l)) (T:l.length<=1000000):
 Calls prog 98 #[v] w (LL w l w):=by
 let⟨N,H,m,p,q⟩:=yX LG;let⟨n,e⟩:=zA l.length;obtain⟨a,c,O,B⟩:∃a c,v=.slice a n c/\Hid (∀d,a=some d->∀j u,(ue l)[j]?=some u->w.cell? (d.add j)=some u)/\(a=none->n=0):=by
  obtain⟨S,⟨I,a,c,rfl⟩|⟨g,o,c,rfl,Q⟩⟩:=h
  .refine⟨a,c,by rw[e.o,I],λd _ j u x=>?_,λ_=>by rwa[e.o]⟩;have:=(zG.1 x).1;lia
  .refine⟨_,c,by rw[e.o],λd J j u x=>?_,λh=>by cases h⟩;cases J;have s:(⟨g,o,none⟩:Addr).add j=⟨g,o+j,none⟩:=(by unfold Addr.add;split<;>simp_all);rw[s];exact Q j u x
 obtain⟨B,F⟩:=B;subst O;have i:(ue l).length=n*8:=by rw[oO,<-e.o]
 have t:=za i;rw[<-e.o]at T;clear i h;unfold LL;rw[<-e.o];have M:∀(w) (a) (n c y z),(binOp .eql 88 (.slice a n c) (.slice none y z)).run prog w=.ok (.bool a.isNone) w:=λw a n c y z=>Nw w _ _ a n c y z Sb;cases a with
 | none=>
  have E:=za (F rfl);clear F;go_enter func98,ntmps98;go_wp2;go_ret;exact⟨_,rfl,⟨t,zu ⟨rfl,E⟩⟩,zB,zL⟩
 | some d=>
  go_enter func98,ntmps98;go_wp2_with (at_builtin;refine yw _ rfl _ _ 88 rfl w.heap.size 102 N _ 8 80 Sb (za H).o (za m).o (za p).o (za q).o rfl (by decide) _ _ _ rfl (ub w #[] 0 zL zZ rfl) d n c (ue l) rfl ?qc1 ?qc2 ?qc3 ?qc4 ?qc5 ?qc6 ?_)
  case qc1=>exact t
  case qc2 =>intro j u x;have:=B.o d rfl j u x;rwa[xR _ _ _ (zy this)]
  case qc3=>exact lK l
  case qc4=>unfold maxLen;lia
  case qc5=>lia
  case qc6=>simp
  intro K R f b r;have G:=((xW _ w).alloc zL _).grown b (by simp) (by intro k L;simp[Value.ownBlock]at L;lia);go_wp2;go_ret;exact⟨K,rfl,f,G,G.size⟩
theorem XS: ∃Z PL:Array _,Z.size=200/\PL[0]?=some (0,1)/\PL[1]?=some (1,192)/\PL[2]?=some (193,1)/\PL[3]?=some (194,1)/\PL[4]?=some (195,1)/\PL[5]?=some (196,1)/\PL[8]?=some (199,1)/\Z[197]?=some (.slice none 0 0)/\Z[198]?=some (.bool false) /\
 ∀parts,prog.built 92 parts=Instr.fill (PL[·]?) Z parts:=
 ⟨((prog.info? 92).bind (·.zero)).get!.cells,#[(0,1),(1,192),(193,1),(194,1),(195,1),(196,1),(197,1),(198,1),(199,1)],by rfl,rfl,rfl,rfl,rfl,rfl,rfl,rfl,by rfl,by rfl,λ_=>by rfl⟩
theorem sE {place:Nat->Option (Nat×Nat)} {cells:Array Value} (v) {rest:List (Nat×Value)} (off) (A) (b:v.cells=A) (c:place k=some (off,A.size)) (d:cells.size=n) (a:off+A.size<=n):
 ∃cs,cs.size=n/\(∀i,cs[i]?=if off<=i/\i<off+A.size then A[i-off]? else cells[i]?)/\Instr.fill place cells ((k,v)::rest)=Instr.fill place cs rest:=by
 subst b d;exact⟨DY cells off v.cells,DW _ _ _,EJ _ _ _ a,G7 off _ c rfl a⟩
theorem Yl (p) (fo) (q2 q3) (n2 n3 c2 c3 gd gp):prog.built 92 [(0,.pointer (some p)),(1,.agg (encF fo)),(2,.slice q2 n2 c2),(3,.slice q3 n3 c3),(4,.map (some gd)),(5,.map (some gp)),(8,.int .i64 256)] =
 some (txR p fo (.slice q2 n2 c2) (.slice q3 n3 c3) (.map (some gd)) (.map (some gp)) (.slice none 0 0) false 256):=by
 let⟨Z,a,P,C,y,l,e,g,f,u,J,R,q⟩:=XS;have b:=vX fo;have r:∀i,1<=i->i<193->(encF fo)[i-1]?=some (nu fo ((i-1) / 48) ((i-1)%48)):=λi L W=>by
  have:=uh fo ((i-1) / 48) ((i-1)%48) (by lia) (by lia)
  grind
 generalize encF fo=A at b r |-;let⟨M,O,z,D⟩:=sE (n:=200) (place:=(a[·]?)) (k:=0) (cells:=Z) (rest:=[(1,.agg A),(2,.slice q2 n2 c2),(3,.slice q3 n3 c3),(4,.map (some gd)),(5,.map (some gp)),(8,.int .i64 256)]) p 0 #[p] rfl C P (by simp);let⟨c,K,s,v⟩:=sE (n:=200) (place:=(a[·]?)) (k:=1) (cells:=M) (rest:=[(2,.slice q2 n2 c2),(3,.slice q3 n3 c3),(4,.map (some gd)),(5,.map (some gp)),(8,.int .i64 256)]) (.agg A) 1 A rfl (by rwa[b]) O (by lia);let⟨d,S,G,E⟩:=sE (n:=200) (place:=(a[·]?)) (k:=2) (cells:=c) (rest:=[(3,.slice q3 n3 c3),(4,.map (some gd)),(5,.map (some gp)),(8,.int .i64 256)]) (q2,n2,c2) 193 #[(q2,n2,c2)] rfl l K (by simp);let⟨U,I,x,F⟩:=sE (n:=200) (place:=(a[·]?)) (k:=3) (cells:=d) (rest:=[(4,.map (some gd)),(5,.map (some gp)),(8,.int .i64 256)]) (q3,n3,c3) 194 #[(q3,n3,c3)] rfl e S (by simp);let⟨N,V,B,h⟩:=sE (n:=200) (place:=(a[·]?)) (k:=4) (cells:=U) (rest:=[(5,.map (some gp)),(8,.int .i64 256)]) (.map (some gd)) 195 #[.map (some gd)] rfl g I (by simp);let⟨T,H,j,t⟩:=sE (n:=200) (place:=(a[·]?)) (k:=5) (cells:=N) (rest:=[(8,.int .i64 256)]) (.map (some gp)) 196 #[.map (some gp)] rfl f V (by simp);let⟨Y,X,w,m⟩:=sE (n:=200) (place:=(a[·]?)) (k:=8) (cells:=T) (rest:=[]) (.int .i64 256) 199 #[(256:Int)] rfl u H (by simp);rw[q];rw[D];rw[v];rw[E];rw[F];rw[h];rw[t];rw[m];rw[Instr.fill];refine zQ some ?_;apply yV;intro i;by_cases Q:i<200
 .rw[mS _ _ _ _ _ _ _ _ _ _ Q];simp[uj,yv,xC,b]at z s G x B j w;rw[w,j,B,x,G,s,z];unfold K8;grind
 .rw[zY (by lia),zY (by rw[qB];lia)]
def bgF (w:World) (gf:Nat) (A:Array Value) (rv nv:Value) (E:List Nd) (fo:Fo) (i:Nat) (v:Value) (u:World):Prop:=
 if i=3 then v=.pointer (some ⟨gf,2,none⟩) else if i=4 then v=.agg A else if i=7 then v=.pointer (some ⟨gf,194,none⟩) else if i=8 then v=rv else if i=11 then v=.pointer (some ⟨gf,195,none⟩) else if i=12 then v=nv
 else if i=13 then u.ownsRow w.heap.size 102 8 v E.length (ue E)
 else if i=14\/i=15 then ∃g,v=.map (some g)/\w.heap.size<=g/\MapL prog 3 u g []
 else if i=16 then ∃n c gd gp,v=.agg (txR (gf,()) fo rv (.slice (some ⟨n,0,none⟩) 32 c) (.map (some gd)) (.map (some gp)) (.slice none 0 0) false 256)/\u.ownsRow w 102 8 (.slice (some ⟨n,0,none⟩) 32 c) 32 (ue E) /\
  w.heap.size<=gd/\w.heap.size<=gp/\gd≠gp/\MapL prog 3 u gd []/\MapL prog 3 u gp []
 else if i=17\/i=18 then ∃gt n c gd gp,v=.pointer (some ⟨gt,0,none⟩)/\w.heap.size<=gt/\u.heap[gt]?=some (.cells (txR (gf,()) fo rv (.slice (some ⟨n,0,none⟩) 32 c) (.map (some gd)) (.map (some gp)) (.slice none 0 0) false 256) 92)/\u.ownsRow w 102 8 (.slice (some ⟨n,0,none⟩) 32 c) 32 (ue E) /\
  w.heap.size<=gd/\w.heap.size<=gp/\gd≠gp/\MapL prog 3 u gd []/\MapL prog 3 u gp []
 else v=.pointer (some ⟨gf,0,none⟩)
theorem FL {A:Array Value} {nv:Value} {fo:Fo} (j) (v) (u u':World) (r:Below u u u') (h:bgF w gf A rv nv E fo j v u):bgF w gf A rv nv E fo j v u':=by
 unfold bgF at h |-;by_cases c:j=3
 .rw[ze c]at h |-;exact h
 rw[zb c]at h |-;by_cases c:j=4
 .rw[ze c]at h |-;exact h
 rw[zb c]at h |-;by_cases c:j=7
 .rw[ze c]at h |-;exact h
 rw[zb c]at h |-;by_cases c:j=8
 .rw[ze c]at h |-;exact h
 rw[zb c]at h |-;by_cases c:j=11
 .rw[ze c]at h |-;exact h
 rw[zb c]at h |-;by_cases c:j=12
 .rw[ze c]at h |-;exact h
 rw[zb c]at h |-;by_cases c:j=13
 .rw[ze c]at h |-;exact tt h r
 rw[zb c]at h |-;by_cases c:j=14\/j=15
 .rw[ze c]at h |-;let⟨g,e,d,a⟩:=h;exact⟨g,e,d,a.of_block (r.block _ a.lt)⟩
 rw[zb c]at h |-;by_cases c:j=16
 .rw[ze c]at h |-;let⟨n,c,l,i,e,d,a,m,k,f,b⟩:=h;exact⟨n,c,l,i,e,tt d r,a,m,k,f.of_block (r.block _ f.lt),b.of_block (r.block _ b.lt)⟩
 rw[zb c]at h |-;by_cases c:j=17\/j=18
 .rw[ze c]at h |-;let⟨o,n,c,l,i,e,q,p,d,a,m,k,f,b⟩:=h;exact⟨o,n,c,l,i,e,q,xV r p,tt d r,a,m,k,f.of_block (r.block _ f.lt),b.of_block (r.block _ b.lt)⟩
 lia
theorem tH (h:FsAt w gf s F a):
 Calls prog 44 #[(gf,())] w (λe w'=>∃gt T,e=.returned (gt,())/\Below w w w'/\TxAt w' w F gt (gf,()) ⟨s.fo,s.rows,s.nodes,[],[],[],false,256⟩ T):=by
 have H:=za h;obtain⟨⟨gl,rv,P,bt,bh,E,tl,FD,L,h2,h3,h4,h5,h6,h7,h8,h9,ap,aC,ay,ae,af,aj,al,ax⟩,a1,a2,a3,a4,a5,a6,a7⟩:=h;obtain⟨k0,k1,W,Q,aK,aH⟩:=sW L;have hE:E.length=32:=by rw[h9.1];exact a2
 obtain⟨qr,cr,ag⟩:∃qr cr,rv=.slice qr s.rows.length cr:=by
  obtain⟨_,⟨x,a0,c0,rfl⟩|⟨g,o,c,rfl,_⟩⟩:=h7.now
  .exact⟨a0,c0,by rw[x]⟩
  .exact⟨_,_,rfl⟩
 obtain⟨A,HA⟩:=zA (encF s.fo);have aD:Hid (A.size=192):=by rw[HA.o];exact vX _
 obtain⟨R,HR⟩:=zD (fsR a (gl,()) s.fo rv P (.map (some bt)) (.map (some bh)));have aw:Hid (∀j,j<A.size->R[2+j]?=A[j]?):=by rw[<-HR.o,HA.o];exact Tr _ _ _ _ _ _ _
 rw[HR.o]at L;have t:=za L;have H8:=za h8;have H7:=za h7;have H9:=za h9;clear h2 h3 h4 h5 h6 ap aC ay ae af aj al ax a1 a2 a3 a4 a5 a6 L h7 h8 h9;go_enter func44,ntmps44
 go_upto_region 1 with fail
 refine Ol (by kernel_rfl) (by kernel_rfl) (λu u'=>Below u u u') (zB.drew) (λu u' L h2=>zi L h2) 21 (λi=>if i=18 then 2 else i+3) (bgF w gf A rv P E s.fo) (λi j=>(i=14/\j=15)\/(i=15/\j=14)) (λk v=>k=0/\v=.pointer (some ⟨gf,0,none⟩)) FL (by omega) (λi j bi=>?_) (λi k v hk=>?_) (by kernel_rfl) ⟨rfl,rfl,λk v hk=>?_⟩ ?_ ?_
 .split<;>split<;>omega
 .split<;>omega
 .obtain⟨rfl,rfl⟩:=hk;rfl
 .intro D b u l i o d m f;have y:=l.old 0 _ ⟨rfl,rfl⟩
  match i,d,m,f with
  | 0,d,m,f=>
   simp only[zf,zm]at d;subst d;exact tj (.tmp 0) rfl ⟨_,rfl,zB,y,by omega⟩
  | 1,d,m,f=>
   simp only[zf,zh,zm]at d;subst d;exact tj (.tmp 0) rfl ⟨_,rfl,zB,y,by omega⟩
  | 2,d,m,f=>
   simp only[zf,zh,zm]at d;subst d;have e1:=l.fact 1 (f ⟨1,.data⟩ (by simp) rfl);exact kU (.tmp 4) rfl ⟨gf,0,none⟩ e1 ⟨_,rfl,zB,rfl,by omega⟩
  | 3,d,m,f=>
   simp only[zf,zh,zm]at d;subst d;have e2:=l.fact 2 (f ⟨2,.data⟩ (by simp) rfl);exact vI (v:=.pointer (some ⟨gf,2,none⟩)) (w':=u) (by unfold execOp;simp only[Act.eval];rw[show b.tmps.getD 5 undef=_ from e2];simp[go_sem]) ⟨_,rfl,zB,rfl,by omega⟩
  | 4,d,m,f=>
   simp only[zf,zh,zm]at d;subst d;have e3:=l.fact 3 (f ⟨3,.data⟩ (by simp) rfl);refine wp_load_mid 85 (.tmp 6) rfl gf 2 e3 A.toList _ (λj v x=>?_) forT rfl (by rw[ye,aD.o];exact forI) ?_
   .have an:j<A.size:=(by have:=(zG.1 x).1;simpa using this);rw[zC (xV l.b t.o),aw.o j an,<-x,zK]
   .exact⟨_,rfl,zB,rfl,by omega⟩
  | 5,d,m,f=>
   simp only[zf,zh,zm]at d;subst d;exact tj (.tmp 0) rfl ⟨_,rfl,zB,y,by omega⟩
  | 6,d,m,f=>
   simp only[zf,zh,zm]at d;subst d;have e5:=l.fact 5 (f ⟨5,.data⟩ (by simp) rfl);exact kU (.tmp 8) rfl ⟨gf,0,none⟩ e5 ⟨_,rfl,zB,rfl,by omega⟩
  | 7,d,m,f=>
   simp only[zf,zh,zm]at d;subst d;have e6:=l.fact 6 (f ⟨6,.data⟩ (by simp) rfl);exact vI (v:=.pointer (some ⟨gf,194,none⟩)) (w':=u) (by unfold execOp;simp only[Act.eval];rw[show b.tmps.getD 9 undef=_ from e6];simp[go_sem]) ⟨_,rfl,zB,rfl,by omega⟩
  | 8,d,m,f=>
   simp only[zf,zh,zm]at d;subst d;have e7:=l.fact 7 (f ⟨7,.data⟩ (by simp) rfl);have r:=(l.b.cell (p:=⟨gf,194,none⟩) (xB t.o)).trans W;exact vI (v:=rv) (w':=u) (by unfold execOp;simp only[Act.eval];rw[show b.tmps.getD 10 undef=_ from e7];simp[go_sem,r]) ⟨_,rfl,zB,rfl,by omega⟩
  | 9,d,m,f=>
   simp only[zf,zh,zm]at d;subst d;exact tj (.tmp 0) rfl ⟨_,rfl,zB,y,by omega⟩
  | 10,d,m,f=>
   simp only[zf,zh,zm]at d;subst d;have e9:=l.fact 9 (f ⟨9,.data⟩ (by simp) rfl);exact kU (.tmp 12) rfl ⟨gf,0,none⟩ e9 ⟨_,rfl,zB,rfl,by omega⟩
  | 11,d,m,f=>
   simp only[zf,zh,zm]at d;subst d;have az:=l.fact 10 (f ⟨10,.data⟩ (by simp) rfl);exact vI (v:=.pointer (some ⟨gf,195,none⟩)) (w':=u) (by unfold execOp;simp only[Act.eval];rw[show b.tmps.getD 13 undef=_ from az];simp[go_sem]) ⟨_,rfl,zB,rfl,by omega⟩
  | 12,d,m,f=>
   simp only[zf,zh,zm]at d;subst d;have aA:=l.fact 11 (f ⟨11,.data⟩ (by simp) rfl);have r:=(l.b.cell (p:=⟨gf,195,none⟩) (xB t.o)).trans Q;exact vI (v:=P) (w':=u) (by unfold execOp;simp only[Act.eval];rw[show b.tmps.getD 14 undef=_ from aA];simp[go_sem,r]) ⟨_,rfl,zB,rfl,by omega⟩
  | 13,d,m,f=>
   simp only[zf,zh,zm]at d;subst d;have a9:=l.fact 12 (f ⟨12,.data⟩ (by simp) rfl);refine lZ 98 #[.tmp 15] #[88] rfl (λ_ _=>by kernel_rfl) #[P] (by simp only[uu,yB,vS,Act.eval];rw[show b.tmps.getD 15 undef=_ from a9];rfl) (λv w'=>w'.ownsRow u 102 8 v E.length (ue E)/\Below u u w')
    ((Ux P E u (H8.o.now.below l.b) (by omega)).mono λe w' ⟨v,he,x1,x2,_⟩=>⟨v,he,x1,x2⟩) ?_
   intro v w' x;exact⟨_,rfl,x.2,uR x.1 l.b.size,by omega⟩
  | 14,d,m,f=>
   simp only[zf,zh,zm]at d;subst d;refine SQ _ rfl ⟨_,rfl,zB.alloc zL _,⟨_,rfl,l.b.size,oI _⟩,λj hj I=>?_⟩;obtain rfl:j=15:=(by omega);obtain⟨g,hg,_,hm⟩:=l.fact 15 I;rw[hg];have:=hm.lt;intro r;injection r with r;injection r with r;omega
  | 15,d,m,f=>
   simp only[zf,zh,zm]at d;subst d;refine SQ _ rfl ⟨_,rfl,zB.alloc zL _,⟨_,rfl,l.b.size,oI _⟩,λj hj I=>?_⟩;obtain rfl:j=14:=(by omega);obtain⟨g,hg,_,hm⟩:=l.fact 14 I;rw[hg];have:=hm.lt;intro r;injection r with r;injection r with r;omega
  | 16,d,m,f=>
   simp only[zf,zh,zm]at d;subst d;have e0:=l.fact 0 (f ⟨0,.data⟩ (by simp) rfl);have e4:=l.fact 4 (f ⟨4,.data⟩ (by simp) rfl);have e8:=l.fact 8 (f ⟨8,.data⟩ (by simp) rfl);have ah:=f ⟨13,.data⟩ (by simp) rfl;have X:=f ⟨14,.data⟩ (by simp) rfl;have aa:=f ⟨15,.data⟩ (by simp) rfl;have G:u.ownsRow w 102 8 (b.tmps.getD 16 undef) E.length (ue E):=l.fact 13 ah;obtain⟨gd,Y,M,am⟩:∃g,b.tmps.getD 17 undef=.map (some g)/\w.heap.size<=g/\MapL prog 3 u g []:=l.fact 14 X;obtain⟨gp,O,V,a8⟩:∃g,b.tmps.getD 18 undef=.map (some g)/\w.heap.size<=g/\MapL prog 3 u g []:=l.fact 15 aa;have N:b.tmps.getD 17 undef≠b.tmps.getD 18 undef:=l.ne 14 15 (zu ⟨rfl,rfl⟩) X aa;rw[Y,O]at N;obtain⟨n,c,B⟩:∃n c,b.tmps.getD 16 undef=.slice (some ⟨n,0,none⟩) 32 c:=by
    obtain⟨_,⟨x,h0⟩|⟨g,c,aY,x,_⟩⟩:=id G
    .omega
    .exact⟨g,c,by rw[x,hE]⟩
   rw[B,hE]at G;refine RY _ _ rfl #[(0,.pointer (some ⟨gf,0,none⟩)),(1,.agg A),(2,rv),(3,.slice (some ⟨n,0,none⟩) 32 c),(4,.map (some gd)),(5,.map (some gp)),(8,.int .i64 256)] ?_ (txR (gf,()) s.fo rv (.slice (some ⟨n,0,none⟩) 32 c) (.map (some gd)) (.map (some gp)) (.slice none 0 0) false 256) ?_ ?_
   .simp only[uu,yB,vS,Act.eval];rw[show b.tmps.getD 3 undef=_ from e0,show b.tmps.getD 7 undef=_ from e4,show b.tmps.getD 11 undef=_ from e8,B,Y,O]
   .rw[HA.o,ag];exact Yl _ _ _ _ _ _ _ _ _ _
   .exact⟨_,rfl,zB,⟨n,c,gd,gp,rfl,G,M,V,λr=>N (by rw[r]),am,a8⟩,by omega⟩
  | 17,d,m,f=>
   simp only[zf,zh,zm]at d;subst d;obtain⟨n,c,gd,gp,aq,q1,Z,q3,q4,q5,S⟩:=l.fact 16 (f ⟨16,.data⟩ (by simp) rfl);have z:Below u u (u.alloc (.cells (txR (gf,()) s.fo rv (.slice (some ⟨n,0,none⟩) 32 c) (.map (some gd)) (.map (some gp)) (.slice none 0 0) false 256) 92)):=zB.alloc zL _;exact V7 92 (.tmp 19) rfl _ aq ⟨_,rfl,z,⟨_,n,c,gd,gp,rfl,l.b.size,zH,tt q1 z,Z,q3,q4,q5.of_block (z.block _ q5.lt),S.of_block (z.block _ S.lt)⟩,by omega⟩
  | 18,d,m,f=>
   simp only[zf,zh,zm]at d;subst d;obtain⟨gt,n,c,gd,gp,aG,q⟩:=l.fact 17 (f ⟨17,.data⟩ (by simp) rfl);exact Rg (.tmp 20) rfl ⟨_,rfl,zB,⟨gt,n,c,gd,gp,aG,q⟩,by omega⟩
 .intro D b u l U;obtain⟨gt,n,c,gd,gp,ai,q0,q1,Z,q3,q4,q5,S,q7⟩:=l.fact 18 (U 18 (by simp));rename_i K hK;have bq:=xB q1;have ba:=(Z.lt n rfl).2;have aO:=(Z.lt n rfl).1;have M:=S.lt;have V:=q7.lt;have C:∀i,i<w.heap.size->(F i\/(i=gt\/i=n\/i=gd\/i=gp))->F i:=λi hl J=>by
   rcases J with J|J|J|J|J
   .exact J
   all_goals omega
  refine hK _ _ (wp_ret ?_);refine yE (v:=.pointer (some ⟨gt,0,none⟩)) ?_ l.dfs ⟨gt,λi=>i=gt\/i=n\/i=gd\/i=gp,rfl,l.b,?_⟩
  .have e2:b.tmps.getD 2 undef=.pointer (some ⟨gt,0,none⟩):=ai;have e3:b.tmps[2]?=some (.pointer (some ⟨gt,0,none⟩)):=(by rw[xx (by rw[l.size];omega)];rw[<-e2];simp[l.size]);simp[results,results44,go_sem,e2,e3]
  .refine mV.at (rv:=rv) (gn:=n) (cn:=c) (gd:=gd) (gp:=gp) (gv:=.slice none 0 0) (E:=E) (pl:=[]) ⟨q1,?_,Z,?_,S,q7,vr.nil _ _,q5,⟨rfl,zu ⟨rfl,rfl⟩⟩,zw (zu rfl),zw (zw (zu rfl)),zw (zw (zw rfl)),λb hb=>by cases hb⟩ (zu rfl) (by rw[<-H9.o.1];exact hE) ?_ ?_ (by simp) (by simp) (by simp) a7 (by simp)
   .exact (H7.o.grow C).below l.b
   .exact (H9.o.grow C).keep (yK.of_below l.b)
   .rintro i (rfl|rfl|rfl|rfl)<;>assumption
   .rintro i (rfl|rfl|rfl|rfl)<;>assumption
theorem iI (h:FsAt w gf s F a) (n) (T:n<s.k):(secE s n).length=64:=by
 let⟨⟨r,C,I,S,O,E,t,R,y,e,K,x,A,M,z,J,N,i,c,j,d,f,l,m,g⟩,P,Q,B,H,G,L,u⟩:=h;unfold secE;rcases c.sec.get (k:=(n:Int)) with⟨o,b⟩|⟨v,D,o,b,q⟩
 .rw[b];exact jn e.lens.2 T
 .rw[b];let⟨_,_,_,_,p,_⟩:=q;exact p
theorem I5 {x:Tx} (h:TxAt w B F gt fp x T) (q:FsAt w gf s F1 a) (n) (r:n<s.k):(secT x s n).length=64:=by
 let⟨p,g,i,l,j,o,E,m,d⟩:=h.lies;unfold secT;rcases d.secs.get (k:=(n:Int)) with⟨c,b⟩|⟨v,D,c,b,f⟩
 .rw[b];exact iI q n r
 .rw[b];let⟨_,_,_,_,e,_⟩:=f;exact e
theorem iW (R:uq w v 8 L.length (ue E)) (Q:Ns G w E L) (S:L.length=32):
 ∃gn on cn,v=.slice (some ⟨gn,on,none⟩) 32 cn/\gn<w.heap.size/\∀(i) (X),L[i]?=some X->∃yq yn yc,
  w.cell? (gn,on+i*8)=some (.int .i64 X.k)/\w.cell? (gn,on+i*8+1)=some (.int .i64 X.m)/\w.cell? (gn,on+i*8+2)=some (.int .i64 X.u)/\w.cell? (gn,on+i*8+3)=some (.int .i64 X.g) /\
  w.cell? (gn,on+i*8+4)=some (.int .i64 X.s)/\w.cell? (gn,on+i*8+5)=some (.int .i64 X.l)/\w.cell? (gn,on+i*8+6)=some (.int .i64 X.up)/\w.cell? (gn,on+i*8+7)=some (.slice yq yn yc) /\
  Out G w (λw'=>tP w' (yq,yn,yc) X.P):=by
 have e:E.length=32:=by rw[Q.1];exact S
 rw[<-Q.1]at R;let⟨O,h,b,A⟩:=rR R;rw[e]at b A;subst b;obtain⟨g,o,rfl,C,N⟩:=A.o (by lia);refine⟨g,o,h,rfl,C,λi X f=>?_⟩;have c:=(zG.1 f).1;have a:i<E.length:=by lia
 let⟨p,x,t,y,z,q,r,B⟩:=sB N i a;have d:=Q.2 i a c;have n:L[i]=X:=by rw[zk c]at f;injection f
 rw[n]at d;let⟨D,F,J,M,K,H,I,j⟩:=d;grind
def useP (X:Pn) (user:Int):Nat:=if X.k≠0/\X.u=user then gN X.P else 0
def nt (L:List Pn) (user:Int):Nat->Nat
 | 0=>0
 | j+1=>nt L user j+useP (L.getD j zN) user
theorem Mm {L:List Pn} (h:∀X∈L,X.P.length<=8) (user):∀j,nt L user j<=8*j
 | 0=>zL
 | j+1=>by
  have c:=Mm h user j;have b:useP (L.getD j zN) user<=8:=by
   unfold useP;split
   .by_cases a:j<L.length
    .have:=h _ (Nj a);have d:=XY L[j].P;grind
    .rw[zt,yW (by lia)]
     decide
   .lia
  unfold nt;lia
theorem OX (hv:uq w v 8 L.length (ue E)) (hE:Ns G w E L) (hl:L.length=32) (hP:∀X∈L,X.P.length<=8) (user):
 Calls prog 109 #[v,(user:Int)] w (κ w (nt L user 32:Int)):=by
 obtain⟨gn,on,cn,rfl,M,J⟩:=iW hv hE hl;have J:=za J;have D:=za hl;have S:=za hP;have r:=Mm hP user;have H:=za r;clear hv hE hl hP r;go_enter func109,ntmps109;go_wp2;go_loopw [5,10] (λkv R wr=>∃j:Nat,j<=32/\R=.int .i64 j/\kv=.int .i64 (nt L user j:Int)/\Hid (Below w w wr)) (λ_ R _=>32-(intOf R).toNat)
 .exact⟨0,by omega,rfl,rfl,zB⟩
 .obtain⟨j,hj,rfl,rfl,d⟩:=hrel;by_cases h:j<32
  .have O:(j:Int)<32:=(by omega);have F:j<L.length:=(by rw[D.o];exact h);obtain⟨X,HX⟩:∃X,Hid (L[j]?=some X):=⟨_,zk F⟩;have I:Hid (L.getD j zN=X):=(by show _=_;rw[zt,HX.o];rfl);have an:=S.o X (wQ HX.o);obtain⟨T,B,C,e0,e1,e2,e3,e4,e5,e6,e7,hI⟩:=J.o j X HX.o;have cc:=λi=>d.o.cell (p:=⟨gn,i,none⟩) M;rw[<-cc]at e0 e1 e2 e3 e4 e5 e6 e7;have HI:=za (uq.below hI.now d.o);have a:Hid (nt L user (j+1)=nt L user j+useP X user):=(by show _=_;rw[<-I.o];rfl);have Q:=H.o j;obtain⟨U,x⟩:=zD (nt L user j);rw[x.o]at Q |-;have ai:¬gn=wr.heap.size:=(by have:=d.o.size;omega);obtain⟨y,Z⟩:=zD X.k;obtain⟨z,A⟩:=zD X.u;rw[Z.o]at e0;rw[A.o]at e2;have c:Hid (Below w w (wr.alloc (.cells #[y,.int .i64 X.m,z,.int .i64 X.g,.int .i64 X.s,.int .i64 X.l,.int .i64 X.up,(T,B,C)] 102))):=d.o.alloc d.o.size _;clear hI cc;by_cases t:y=0
   .subst t;have b:Hid (nt L user (j+1)=U):=(by show _=_;rw[a.o,x.o];unfold useP;rw[zb (by rw[Z.o];simp)];rfl);go_wp2;go_roundw
    .exact⟨j+1,by omega,by go_num,by rw[b.o],c⟩
    .simp[intOf];omega
   .have b0:(y==0)=false:=(by simpa using t);have b1:(y != 0)=true:=(by simpa using t);by_cases K:z=user
    .subst K;have b:Hid (nt L z (j+1)=U+gN X.P):=(by show _=_;rw[a.o,x.o];unfold useP;rw[ze ⟨by rw[Z.o];exact t,A.o⟩]);have q:=za (XY X.P);have f:=za (λ(W:World) (hW:Below wr wr W)=>LP y X.m z X.g X.s X.l X.up (T,B,C) X.P W (uq.below HI.o hW) (by omega));obtain⟨V,HV⟩:=zD (gN X.P);rw[HV.o]at f q b;have i1:IntKind.i64.wrap (U+V)=U+V:=zM _ (by have:=q.o;omega);have Y:Hid (Below wr wr (wr.alloc (.cells #[y,X.m,z,X.g,X.s,X.l,X.up,(T,B,C)] 102))):=zB.alloc zL _;go_wp2_with fail
     refine (f.o _ Y.o).mono ?_;rintro e w2 ⟨rfl,n⟩;have N:=za (zi c.o n);clear n;go_wp2;go_roundw
     .exact⟨j+1,by omega,by go_num,by rw[b.o];go_num,N⟩
     .simp[intOf];omega
    .have b2:(z==user)=false:=(by simpa using K);have b:Hid (nt L user (j+1)=U):=(by show _=_;rw[a.o,x.o];unfold useP;rw[zb (by rw[A.o];simp[K])];rfl);go_wp2;go_roundw
     .exact⟨j+1,by omega,by go_num,by rw[b.o],c⟩
     .simp[intOf];omega
  .obtain rfl:j=32:=(by omega);go_wp2;go_ret;exact⟨rfl,d.o⟩
theorem jM (h:FsAt w gf s F a):∃nv E,w.cell? (gf,195)=some nv/\uq w nv 8 s.nodes.length (ue E)/\Ns F w E s.nodes:=by let⟨⟨o,y,nv,K,G,E,p,J,k,q,B,t,v,D,u,n,c,g,l,i,d,e,j,m,f⟩,H,I,x,A,z,C,r⟩:=h;let⟨_,_,_,b,_,_⟩:=sW k;have:=n.now;rw[c.1]at this;grind
theorem J0 (h:FsAt w gf s F a):
 Calls prog 279 #[(gf,())] w (λe w'=>e=.returned s.k/\w=w'):=by
 let⟨⟨I,L,M,Q,N,E,K,O,n,m,z,q,t,C,r,y,D,f,j,g,b,c,i,l,d⟩,G,H,u,x,v,B,p⟩:=h;let⟨P,_,_,_,_,_⟩:=sW n;go_enter func279,ntmps279;go_wp2_with fail
 refine (za (jm m)).o.mono ?_;rintro e J ⟨rfl,rfl⟩;go_wp2;go_ret;simp
theorem Vj (h:FsAt w gf s F a) (n) (t:n<s.k):
 Calls prog 280 #[.agg #[(gf,())],(n:Int)] w (fR (secE s n) w):=by
 have b:Hid (Below w w (w.alloc (.cells #[(gf,())] 76))):=zB.alloc zL _;have q:=za (OG (h.below b) n t);generalize secE s n=D at *
 go_enter func280,ntmps280;go_wp2_with fail
 refine q.o.mono ?_;rintro e p ⟨v,rfl,g,f,c,j,d,m,i,l⟩;have r:Hid (Lb D w v p):=⟨g,f,c,j,⟨zv b.o.size d.1,d.2⟩,m,i,zi b l⟩;clear j d m i l;go_wp2;go_ret2;exact⟨v,rfl,r⟩
theorem Vi (h:FsAt w gf s F a):
 Calls prog 281 #[.agg #[(gf,())]] w (κ w s.k):=by
 have b:Hid (Below w w (w.alloc (.cells #[(gf,())] 76))):=zB.alloc zL _;go_enter func281,ntmps281;go_wp2_with fail
 refine (za (J0 (h.below b))).o.mono ?_;rintro e d ⟨rfl,rfl⟩;go_wp2;go_ret;exact⟨rfl,b⟩
def Tj (s:Fs):Prop:=∀n,n<s.k->∀x∈secE s n,0<=x/\x<=255
def fsRdr (gf:Nat):Rdr:=⟨76,.agg #[(gf,())],280,281,.agg #[(gf,())],.agg #[(gf,())]⟩
theorem fsRdr1 (gf : Nat) : ∀ W : World, (nilAhead 434 76 (.agg #[.pointer (some ⟨gf, 0, none⟩)]) "Read").run prog W = .ok (some false) W := λW => by rfl
theorem fsRdr2 (gf : Nat) : ∀ W : World, (nilAhead 434 76 (.agg #[.pointer (some ⟨gf, 0, none⟩)]) "Size").run prog W = .ok (some false) W := λW => by rfl
theorem fsRdr3 (gf : Nat) : ∀ W : World, (method 434 76 (.agg #[.pointer (some ⟨gf, 0, none⟩)]) "Read").run prog W = .ok (280, (.agg #[.pointer (some ⟨gf, 0, none⟩)])) W := λW => by rfl
theorem fsRdr4 (gf : Nat) : ∀ W : World, (method 434 76 (.agg #[.pointer (some ⟨gf, 0, none⟩)]) "Size").run prog W = .ok (281, (.agg #[.pointer (some ⟨gf, 0, none⟩)])) W := λW => by rfl
theorem fsRdr5 (gf):∀(x) (W),(callFunc 280 #[(.agg #[.pointer (some ⟨gf,0,none⟩)]),x]).run prog W=.ok (.enter 280 #[(.agg #[.pointer (some ⟨gf,0,none⟩)]),x]) W:=λx W=>by rfl
theorem fsRdr6 (gf):∀W,(callFunc 281 #[(.agg #[.pointer (some ⟨gf,0,none⟩)])]).run prog W=.ok (.enter 281 #[(.agg #[.pointer (some ⟨gf,0,none⟩)])]) W:=λW=>by rfl
theorem ks (h:FsAt w gf s F a) (d:Tj s):RdAt w (fsRdr gf) (secE s) s.k:=
 ⟨fsRdr1 gf,fsRdr2 gf,fsRdr3 gf,fsRdr4 gf,fsRdr5 gf,fsRdr6 gf,
  λ_w' b n c=>Vj (h.below b) n c,λ_w' b=>Vi (h.below b),λn c=>iI h n c,d⟩
def dkRdr (a:Addr):Rdr:=⟨26,a,76,77,a,.pointer (some a)⟩
theorem dkRdr1 (a : Addr) : ∀ W : World, (nilAhead 434 26 a "Read").run prog W = .ok (some false) W := λW => by rfl
theorem dkRdr2 (a : Addr) : ∀ W : World, (nilAhead 434 26 a "Size").run prog W = .ok (some false) W := λW => by rfl
theorem dkRdr3 (a : Addr) : ∀ W : World, (method 434 26 a "Read").run prog W = .ok (76, (.pointer (some a))) W := λW => by rfl
theorem dkRdr4 (a : Addr) : ∀ W : World, (method 434 26 a "Size").run prog W = .ok (77, (.pointer (some a))) W := λW => by rfl
theorem dkRdr5 (a):∀(x) (W),(callFunc 76 #[(.pointer (some a)),x]).run prog W=.ok (.enter 76 #[(.pointer (some a)),x]) W:=λx W=>by rfl
theorem dkRdr6 (a):∀W,(callFunc 77 #[(.pointer (some a))]).run prog W=.ok (.enter 77 #[(.pointer (some a))]) W:=λW=>by rfl
theorem LK (h:uT w a st k F) (f:∀n,n<k->∀x∈sec st.N n,0<=x/\x<=255):RdAt w (dkRdr a) (sec st.N) k:=
 ⟨dkRdr1 a,dkRdr2 a,dkRdr3 a,dkRdr4 a,dkRdr5 a,dkRdr6 a,
  λ_w' b n d=>oX (h.below b) n d,λ_w' b=>(jm (h.below b)).mono λ_e _w2 ⟨e,c⟩=>⟨e,c▸zB⟩,λ_n d=>jn h.lens.2 d,f⟩
theorem Pr (h:FsAt w gf s F a) (j:Tj s) (i:Cj (secE s) s.fo s.k):
 Calls prog 11 #[(gf,())] w (κ w (.slice none 0 0)):=by
 have d:=VW (ks h j) h.k1 h.k0 s.fo i;have f:Hid (Calls prog 43 #[.iface 76 (.agg #[(gf,())])] w (κ w (.slice none 0 0))):=d;go_enter func11,ntmps11;go_wp2_with fail
 refine f.o.mono ?_;rintro e g ⟨rfl,b⟩;go_wp2;go_ret;exact⟨rfl,(za b).o⟩
def oA (D:List Int) (at0 n:Nat):List Int:=(D.drop at0).take n
theorem YJ {x:Tx} (h:TxAt w B F gt fp x T) (i:Nat) (A:i<32) (X) (y:x.nodes[i]?=some X) (z:0<X.l):
 Calls prog 84 #[(gt,()),(i+1:Int)] w (κ w (.tuple #[])):=by
 have d:=za (kN h i A X y);let⟨l,r⟩:=zD X.l;rw[r.o]at d z;have t:=zX z;go_enter func84,ntmps84;go_wp2_with fail
 refine d.o.mono ?_;rintro e p ⟨q,n,c,rfl,f,a⟩;have b:=za a;have j:Hid (Below w w (p.alloc (.cells #[X.k,X.m,X.u,X.g,X.s,l,X.up,(q,n,c)] 102))):=b.o.alloc b.o.size _;have v:=(ug (zO p (.cells #[X.k,X.m,X.u,X.g,X.s,l,X.up,(q,n,c)] 102))).2.2.2.2.2.1;go_wp2;refine⟨rfl,.tuple #[],(by simp[results,results84,go_sem]),rfl,j⟩
theorem heldT: prog.underlying 95=some (.map 3 3):=rfl
theorem intZv (w):(zeroValue 3).run prog w=.ok (.int .i64 0) w:=(ui (P:=prog) (t:=3) (v:=.int .i64 0) (n:=1) rfl).1 w
theorem Ue {x:Tx} (hf:FsAt w0 gf s F1 a) (hb:Below w0 w0 w) (h:TxAt w w0 F gt (gf,()) x T) (i:Nat) (hi:i<32) (X) (hX:x.nodes[i]?=some X) (hl:X.l=0) (hh:0<(getZ s.held (i+1)).getD 0):
 Calls prog 84 #[(gt,()),(i+1:Int)] w (κ w (.tuple #[])):=by
 have f:=za (kN h i hi X hX);rw[hl]at f;let⟨l,C⟩:=zD ((getZ s.held ((i:Int)+1)).getD 0);have v:Hid (∀W,Below w w W->∃j,W.cell? (gt,0)=some (.pointer (some ⟨gf,0,none⟩))/\W.cell? (gf,197)=some (.map (some j))/\(Instr.lookup 95 (.map (some j)) (.int .i64 (i+1)) false).run prog W=.ok (.int .i64 l) W):=λW B=>by obtain⟨rv,gn,cn,gd,gp,Z,E,pl,M⟩:=(h.below B).lies;let⟨S,_⟩:=nw M.row;obtain⟨⟨U,L,G,bt,j,E',V,FD,K,f2,f3,f4,f5,f6,f7,Y,f9,H,P,N,R,I,y,J,O⟩,_⟩:=(hf.below hb).below B;let⟨_,_,_,_,_,p⟩:=sW K;have D:=y.look (k:=(i:Int)+1) intT heldT (intZv W) (by unfold InZ;lia);rw[UR,C.o]at D;exact⟨j,S,p,D⟩
 rw[C.o]at hh;have d1:=zX hh;go_enter func84,ntmps84;go_wp2_with fail
 refine f.o.mono ?_;rintro e z ⟨q,n,c,rfl,t,r⟩;have b:=za r;have d:Hid (Below w w (z.alloc (.cells #[X.k,X.m,X.u,X.g,X.s,(),X.up,(q,n,c)] 102))):=b.o.alloc b.o.size _;have s5:=(ug (zO z (.cells #[X.k,X.m,X.u,X.g,X.s,(),X.up,(q,n,c)] 102))).2.2.2.2.2.1;let⟨j,y0,A,Q⟩:=v.o _ d;go_wp2;refine⟨rfl,.tuple #[],(by simp[results,results84,go_sem]),rfl,d⟩
theorem CC {x:Tx} (hf:FsAt w0 gf s F1 a) (hb:Below w0 w0 w) (h:TxAt w w0 F gt (gf,()) x T) (hF:∀i,F i->i<w.heap.size)
 (i:Nat) (hi:i<32) (X) (hX:x.nodes[i]?=some X) (hl:X.l=0) (hh:(getZ s.held (i+1)).getD 0=0) (an:X.P.length<=8) (hg:x.gone.length<=900) (hd:x.dirty.length<900):
 Calls prog 84 #[(gt,()),(i+1:Int)] w
  (ρ (.tuple #[]) λw'=>sZ w0 F gt (gf,()) {x with gone:=x.gone++nzF X.P,nodes:=x.nodes.set i zN,dirty:=putZ x.dirty (i+1) (.bool true)} T w w'):=by
 have H:=za h;have HF:=za (hf.below hb);have b4:=za hF;have aJ:=za an;have HG:=za hg;have ah:=za (kN h i hi X hX);rw[hl]at ah;have aO:Hid (∀W,Below w w W->∃bh,W.cell? (gt,0)=some (.pointer (some ⟨gf,0,none⟩))/\W.cell? (gf,197)=some (.map (some bh))/\(Instr.lookup 95 (.map (some bh)) (.int .i64 (i+1)) false).run prog W=.ok (.int .i64 0) W):=λW hW=>by obtain⟨rv,gn,cn,gd,gp,gv,E,pl,J⟩:=(h.below hW).lies;obtain⟨c0,_⟩:=nw J.row;obtain⟨⟨gl,bK,bH,bt,bh,E',tl,FD,f1,f2,f3,f4,f5,f6,f7,f8,f9,ca,bD,b8,cc,bS,aI,b6,bB⟩,_⟩:=(hf.below hb).below hW;obtain⟨_,_,_,_,_,ar⟩:=sW f1;exact⟨bh,c0,ar,by have h9:=aI.look (k:=(i:Int)+1) intT heldT (intZv W) (by unfold InZ;omega);rw[UR,hh]at h9;exact h9⟩
 clear h hf hF hX hl;go_enter func84,ntmps84;go_wp2_with fail
 refine ah.o.mono ?_;rintro e w1 ⟨q,n,c,rfl,af,ab⟩;have aq:=za ab;have aX:=za af;have K:Hid (Below w w (w1.alloc (.cells #[X.k,X.m,X.u,X.g,X.s,(),X.up,(q,n,c)] 102))):=aq.o.alloc aq.o.size _;have al:Hid ((w1.alloc (.cells #[X.k,X.m,X.u,X.g,X.s,(),X.up,(q,n,c)] 102)).heap[w1.heap.size]?=some (.cells #[X.k,X.m,X.u,X.g,X.s,(),X.up,(q,n,c)] 102)):=zH;have U:Hid (TQ (λi=>F i\/T i) X (w1.alloc (.cells #[X.k,X.m,X.u,X.g,X.s,(),X.up,(q,n,c)] 102)) q n c):=aX.o.below (zB.alloc zL _);have bM:=za ab.size;clear af ab;obtain⟨bh,y0,ax,aA⟩:=aO.o _ K.o;obtain⟨m0,m1,m2,m3,m4,m5,m6,m7⟩:=ug al.o;go_wp2;clear y0 ax aA m0 m1 m2 m3 m4 m5 m6 m7 al;obtain⟨w2,z⟩:=zD (w1.alloc (.cells #[X.k,X.m,X.u,X.g,X.s,(),X.up,(q,n,c)] 102));have L:Hid (X.P.length=n):=by obtain⟨p,cp,hv,_⟩:=kF U.o.now;injection hv with e1 e2 e3;exact e2.symm
 have bF:Hid (sZ w0 F gt (gf,()) x T w w2):=by rw[<-z.o];exact sZ.same H.o K.o
 have aB:Hid (TxAt w2 w0 F gt (gf,()) x T):=by rw[<-z.o];exact H.o.below K.o
 have Y:Hid (Below w w w2):=by rw[<-z.o];exact K.o
 rw[z.o]at U;rw[z.o];have bR:n<=8:=by have D:=L.o;have h2:=aJ.o;omega
 go_loopw [28] (λiv wr=>∃j:Nat,j<=n/\iv=.int .i64 (j:Int)/\Hid (sZ w0 F gt (gf,()) {x with gone:=x.gone++nzF (X.P.take j)} T w2 wr)) (λiv _=>20-(intOf iv).toNat)
 .exact⟨0,yh _,rfl,by
  have:({x with gone:=x.gone++nzF (X.P.take 0)})=x:=by show ({x with gone:=x.gone++[]}:Tx)=x;rw[yY]
  show sZ _ _ _ _ _ _ _ _;rw[this];exact sZ.same aB.o zB⟩
 .obtain⟨j,hj,rfl,am⟩:=hrel;have ij:=zW (j+1) (by omega);obtain⟨T',t1,t2,t3,t4⟩:=id am.o;have B:=za t1;have d:Hid ((∀i,T' i->T i\/w2.heap.size<=i)/\yK T w2 wr/\∀i,T i->T' i):=⟨t2,t3,t4⟩;by_cases a8:j<n
  .have d1:j<(n:Int):=(by omega);have d2:=zX d1;have hI:=U.o wr (t3.mono λi _ hi=>zw hi);obtain⟨_,⟨h0,_⟩|⟨gq,oq,cq,hv,N⟩⟩:=hI
   .have:=L.o;omega
   injection hv with e1 e2 e3;subst e1 e3;have a2:j<X.P.length:=(by rw[L.o];exact a8);have a5:wr.cell? (gq,oq+j)=some (.int .i64 X.P[j]):=N j _ (by unfold ints;rw[xE,zk a2];rfl);have ay:nzF (X.P.take (j+1))=nzF (X.P.take j)++nzF [X.P[j]]:=(by rw[<-Oz];congr 1;exact iD _ _ _ (zk a2));have S:=za ay;obtain⟨p,Hp⟩:=zD (X.P[j]);rw[Hp.o]at a5 S;clear ay N t1 t2 t3 t4;by_cases aa:p=0
   .subst aa;go_wp2;go_roundw
    .exact⟨j+1,by omega,by go_num,by show sZ _ _ _ _ _ _ _ _;rw[S.o,show nzF [(0:Int)]=[] from rfl,yY];exact am.o⟩
    .simp[intOf];omega
   .have b0:(p != 0)=true:=(by simpa using aa);have be:nzF [p]=[p]:=(by unfold nzF;simp[aa]);obtain⟨rv,gn,cn,gd,gp,gv,E,pl,J⟩:=B.o.lies;obtain⟨k0,bq,b1,bk,bn,bg,br,bp⟩:=nw J.row;have y:=za J;obtain⟨v,M⟩:=zD (x.gone++nzF (X.P.take j));have ag:Hid (v.length<=908):=(by show _<=_;rw[<-M.o,zl];have D:=Vo (X.P.take j);rw[Ni]at D;have:=HG.o;omega);obtain⟨i0,av,aj,az,ao⟩:=yX kG;have bc:=za av;have aD:=za aj;have a9:=za az;have aK:=za ao;have aE:Hid (wr.ownsRow w0 3 1 gv v.length (ints v)):=(by rw[<-M.o];exact J.gone);have bd:=za (λo=>tt aE.o ((xW wr wr).alloc zL o));have a6:Hid (w0.heap.size<=wr.heap.size):=(by have D:=B.o.new gt B.o.self;have h2:=xB J.row;show _<=_;omega);have aF:Hid (∀G,(wr.alloc (.cells #[p] 3)).grownBy G gv.ownBlock->yK (λr=>gv.ownBlock=some r) wr G/\G.heap[gt]?=wr.heap[gt]?):=λG bf=>(by have k1:=yK.grown bf λr Z=>Z;have k2:=(yK.of_below (zB.alloc zL _)).step k1;refine⟨k2,k2.block gt (xB J.row) λN=>?_⟩;obtain⟨a7,I⟩:=kV J.gone gt N;exact ve J.row I (by decide) rfl);clear av aj az ao J;have bG:=ag.o;go_wp2_with (at_builtin;refine wpList_append_lies _ rfl _ _ 33 rfl w0 3 i0 (.int .i64 0) 1 8 qG bc.o aD.o a9.o aK.o rfl (by decide) gv v.length (ints v) rfl (bd.o _) ⟨wr.heap.size,0,none⟩ 1 1 [.int .i64 p] rfl rfl (xF (cs:=#[.int .i64 p]) (t:=3) (fr:=(0,0)) (zO wr _)) (by simp[Value.oneCell']) (by omega) (by unfold maxLen;omega) (by omega) (by have:=a6.o;simp;omega) _ rfl ?_;intro R f G C V aY bu;have A:=aF.o G V;have ba:G.frozen? (gt,197)=false:=zF (A.2.trans y.o.row);have aP:=(nw (A.2.trans y.o.row)).2.2.2.2.2.1)
    go_roundw;case rel=>
     refine⟨j+1,by omega,by go_num,?_⟩;have aN:yK (λr=>r=gt\/gv.ownBlock=some r) wr (G.setCell (gt,197) (R,0,(v.length+1),f)):=(A.1.mono λi _ hi=>zw hi).step (yK.setCell (p:=⟨gt,197,none⟩) (zu rfl) _);have O:v.length=(x.gone++nzF (X.P.take j)).length:=(by rw[M.o]);have ak:R≠gt:=λN=>(by subst N;have h5:=A.2.trans y.o.row;obtain⟨a7,I⟩:=kV C R rfl;exact ve h5 I (by decide) rfl);have au:(G.setCell (gt,197) (R,0,(v.length+1),f)).heap[gt]?=some (.cells (txR (gf,()) x.fo rv (.slice (some ⟨gn,0,none⟩) 32 cn) (.map (some gd)) (.map (some gp)) (R,0,(v.length+1),f) x.full x.fake) 92):=(by rw[<-iz];exact zT _ _ 197 _ _ _ (A.2.trans y.o.row));have bb:ints v++[Value.int .i64 p]=ints (v++[p]):=(by simp[ints]);have ap:=y.o.addGone B.o p R f aN (by rw[<-O];exact au) (by show World.ownsRow _ _ _ _ _ ((x.gone++nzF (X.P.take j)).length+1) (ints ((x.gone++nzF (X.P.take j))++[p]));rw[M.o,<-bb];have a4:yK (λr=>r=gt) G (G.setCell (gt,197) (R,0,(v.length+1),f)):=yK.setCell (F:=λr=>r=gt) (p:=⟨gt,197,none⟩) rfl _;exact vE C λb hb=>a4.block b (C.lt b hb).2 (λN=>ak (by have e:R=b:=(by simpa[Value.ownBlock]using hb);rw[e];exact N))) (aY.imp id λh=>by rw[h];simp) (by rw[<-O];have:=ag.o;omega);obtain⟨T2,s1,s2,s3,s4⟩:=ap;have e2:({x with gone:=(x.gone++nzF (X.P.take j))++[p]})={x with gone:=x.gone++nzF (X.P.take (j+1))}:=(by rw[S.o,be,zR]);rw[<-e2];refine⟨T2,s1,λi hi=>?_,d.o.2.1.trans s3 d.o.1,λi hi=>s4 i (d.o.2.2 i hi)⟩;rcases s2 i hi with D|D
     .exact d.o.1 i D
     .exact zw (zv d.o.2.1.size D)
    case measure=>simp[intOf];omega
  .obtain rfl:j=n:=(by omega);have d1:¬j<(j:Int):=(by omega);have d2:=zJ d1;have aG:Hid (nzF (X.P.take j)=nzF X.P):=(by show _=_;rw[zo (by rw[L.o];exact zL)]);have Q:=Zi B.o i hi zN none 0 0 (λw' _=>⟨rfl,zu ⟨rfl,_,_,rfl⟩⟩) hd;have a0:=za Q;clear Q t1 t2 t3 t4;go_wp2_with fail
   refine a0.o.mono ?_;rintro e w7 ⟨rfl,d7⟩;have aQ:=za d7;clear d7;go_wp2;refine⟨rfl,.tuple #[],(by simp[results,results84,go_sem]),rfl,?_⟩;obtain⟨T2,s1,s2,s3,s4⟩:=aQ.o;have e2:({x with gone:=x.gone++nzF (X.P.take j),nodes:=x.nodes.set i zN,dirty:=putZ x.dirty (i+1) (.bool true)})={x with gone:=x.gone++nzF X.P,nodes:=x.nodes.set i zN,dirty:=putZ x.dirty (i+1) (.bool true)}:=(by rw[aG.o]);have a1:=d.o.2.1.trans s3 d.o.1;rw[<-e2];refine⟨T2,s1,λr Z=>?_,(yK.of_below Y.o).trans a1 (λr Z=>zu Z),λr Z=>s4 r (d.o.2.2 r Z)⟩;rcases s2 r Z with D|D
   .rcases d.o.1 r D with h2|h2
    .exact zu h2
    .exact zw (zv Y.o.size h2)
   .exact zw (zv Y.o.size (zv d.o.2.1.size D))
theorem sZ.after {x y:Tx} (h:TxAt w B F gt fp x T) (j:Below w w w1) (k:sZ B F gt fp y T w1 w2):sZ B F gt fp y T w w2:=by
 let⟨g,f,e,c,d⟩:=k;refine⟨g,f,λi b=>?_,(yK.of_below j).trans c λi b=>zu b,d⟩;rcases e i b with a|a
 .lia
 .exact zw (zv j.size a)
theorem sZ.join {T1:Nat->Prop} {y:Tx} (h:∀i,T1 i->T i\/w.heap.size<=i) (j:yK T w w1) (k:∀i,T i->T1 i) (l:sZ B F gt fp y T1 w1 w2):sZ B F gt fp y T w w2:=by
 let⟨g,f,e,c,d⟩:=l;refine⟨g,f,λi b=>?_,j.trans c h,λi b=>d i (k i b)⟩;rcases e i b with a|a
 .grind
 .exact zw (zv j.size a)
def Tx.freeX (x:Tx) (s:Fs) (i:Nat) (X:Pn):Tx:=
 if 0<X.l\/0<(getZ s.held (i+1)).getD 0 then x else {x with gone:=x.gone++nzF X.P,nodes:=x.nodes.set i zN,dirty:=putZ x.dirty (i+1) (.bool true)}
theorem Kf {x:Tx} (n:FsAt w0 gf s F1 a) (o:Below w0 w0 w) (h:TxAt w w0 F gt (gf,()) x T) (p:∀i,F i->i<w.heap.size)
 (i:Nat) (j:i<32) (X) (k:x.nodes[i]?=some X) (t:0<=X.l) (u:0<=(getZ s.held (i+1)).getD 0) (m:X.P.length<=8) (q:x.gone.length<=900) (r:x.dirty.length<900):
 Calls prog 84 #[(gt,()),(i+1:Int)] w
  (ρ (.tuple #[]) λw'=>sZ w0 F gt (gf,()) (x.freeX s i X) T w w'):=by
 unfold Tx.freeX;by_cases f:0<X.l
 .rw[ze (zu f)];exact (YJ h i j X k f).mono λe w' ⟨b,c⟩=>⟨b,sZ.same h c⟩
 .by_cases d:0<(getZ s.held ((i:Int)+1)).getD 0
  .rw[ze (zw d)];exact (Ue n o h i j X k (by lia) d).mono λe w' ⟨b,c⟩=>⟨b,sZ.same h c⟩
  .rw[zb (λg=>g.elim f d)];exact CC n o h p i j X k (by lia) (by lia) m q r
theorem Kh {x:Tx} (hf:FsAt w0 gf s F1 a) (hb:Below w0 w0 w) (h:TxAt w w0 F gt (gf,()) x T) (hF:∀i,F i->i<w.heap.size)
 (i:Nat) (hi:i<32) (X) (hX:x.nodes[i]?=some X) (hl:0<X.l/\X.l<=200) (hh:0<=(getZ s.held (i+1)).getD 0) (ab:X.P.length<=8) (hg:x.gone.length<=900) (hd:x.dirty.length<890) (y)
 (hy:y=({x with nodes:=x.nodes.set i {X with l:=X.l-1},dirty:=putZ x.dirty (i+1) (.bool true)}).freeX s i {X with l:=X.l-1}):
 Calls prog 62 #[(gt,()),(i+1:Int)] w
  (ρ (.tuple #[]) λw'=>sZ w0 F gt (gf,()) y T w w'):=by
 have H:=za h;have V:=za hb;have B:=za (kN h i hi X hX);have D:=za hd;have Y:=za hy;let⟨l,Hl⟩:=zD X.l;rw[Hl.o]at B hl Y;have iw:=zW (l-1) (by omega);have ag:=za hl;go_enter func62,ntmps62;go_wp2_with fail
 refine B.o.mono ?_;rintro e d ⟨q,n,c,rfl,p,C⟩;have z:=za C;have f:(d.alloc (.cells #[X.k,X.m,X.u,X.g,X.s,l,X.up,(q,n,c)] 102)).heap[d.heap.size]?=some (.cells #[X.k,X.m,X.u,X.g,X.s,l,X.up,(q,n,c)] 102):=zH;have s5:=(ug f).2.2.2.2.2.1;have z5:(d.alloc (.cells #[X.k,X.m,X.u,X.g,X.s,l,X.up,(q,n,c)] 102)).frozen? (d.heap.size,5)=false:=zF f;have j:(d.alloc (.cells #[X.k,X.m,X.u,X.g,X.s,.int .i64 (l-1),X.up,(q,n,c)] 102)).heap[d.heap.size]?=some (.cells #[X.k,X.m,X.u,X.g,X.s,.int .i64 (l-1),X.up,(q,n,c)] 102):=zH;let⟨m0,m1,m2,m3,m4,m5,m6,m7⟩:=ug j;have A:Hid (Below w w (d.alloc (.cells #[X.k,X.m,X.u,X.g,X.s,.int .i64 (l-1),X.up,(q,n,c)] 102))):=z.o.alloc z.o.size _;have b:=Zi (za (H.o.below A.o)).o i hi {X with l:=l-1} q n c ((za p).o.below (zB.alloc zL _)) (by have:=D.o;omega);have v:=za b;clear b p C f j;go_wp2_with fail
 refine v.o.mono ?_;rintro e w3 ⟨rfl,R⟩;let⟨W,L,S,G,U⟩:=sZ.after H.o A.o R;have J:Hid ((∀i,W i->T i\/w.heap.size<=i)/\yK T w w3/\∀i,T i->W i):=⟨S,G,U⟩;have ap:=za L;have O:(x.nodes.set i {X with l:=l-1})[i]?=some {X with l:=l-1}:=ul (by rw[(za h.len).o];exact hi);have K:=za (Kf (za hf).o (V.o.trans (G.to_below H.o.new V.o.size)) L (λr hr=>zr ((za hF).o r hr) G.size) i hi {X with l:=l-1} O (by show 0<=l-1;omega) hh (za ab).o (za hg).o (by have h2:=pT ((i:Int)+1) (Value.bool true) x.dirty;have h3:=D.o;show (putZ x.dirty _ _).length<900;omega));go_wp2_with fail
 refine K.o.mono ?_;rintro e w4 ⟨rfl,Z⟩;go_wp2;refine⟨rfl,.tuple #[],(by simp[results,results62,go_sem]),rfl,?_⟩;rw[Y.o];exact sZ.join J.o.1 J.o.2.1 J.o.2.2 (za Z).o
theorem Wb {x:Tx} (h:TxAt w B F gt fp x T) (t:FsAt w gf s F1 a) (r:PtR x s p):(secT x s p.toNat).length=64:=by
 by_cases f:p<(s.k:Int)
 .exact I5 h t _ (by have:=r.1;omega)
 .let⟨q,i,j,m,l,o,E,n,d⟩:=h.lies;have c:=r.2.2.resolve_left f;rw[<-rp r.1]at c;unfold secT;rcases d.secs.get (k:=(p.toNat:Int)) with⟨_,b⟩|⟨v,D,_,b,g⟩
  .grind
  .rw[b];let⟨_,_,_,_,e,_⟩:=g;exact e
theorem XU {x:Tx} (h:TxAt w B F gt fp x T) (b:FsAt w gf s F1 a) (c:PtR x s p):(uY (secT x s) p).length=64:=by
 unfold uY;split
 .exact xt
 .exact Wb h b c
theorem Sy {N:Nat->List Int} {P:List Int} (h:∀p∈P,(uY N p).length=64):∀j,j<=P.length->(ZN N P j).length=64*j
 | 0,_=>rfl
 | j+1,b=>by have a:j<P.length:=b;rw[om N P j a,zl,Sy h j (by omega),h _ (Nj a)];omega
theorem kO {x:Tx} (h:TxAt w B F gt (gf,()) x T) (hf:FsAt w gf s F1 a) (i:Nat) (hi:i<32) (X) (hX:x.nodes[i]?=some X)
 (hP:∀p∈X.P,PtR x s p) (ai:X.P.length<=8) (hs:0<=X.s/\X.s<=64*X.P.length):
 Calls prog 106 #[(gt,()),(i+1:Int)] w
  (λe w'=>∃v,e=.returned v/\w'.ownsRow w 5 1 v (sF (secT x s) X.P X.s).length (u8s (sF (secT x s) X.P X.s))/\Below w w w'):=by
 have Y:=za (kN h i hi X hX);have H:=za h;have HF:=za hf;have r:Hid (∀p∈X.P,(uY (secT x s) p).length=64):=λp hp=>XU h hf (hP p hp);have aI:=za hP;obtain⟨n,I⟩:=zD X.P.length;have aK:n<=8:=by rw[<-I.o];exact ai
 rw[I.o]at hs;obtain⟨t,HT⟩:∃t:Nat,Hid (X.s=(t:Int)):=⟨X.s.toNat,by show _=_;omega⟩;have ht:t<=64*n:=by have:=HT.o;omega
 obtain⟨b,ae⟩:=zD (secT x s);have aP:Hid (∀j (hj),sc x s X.P j=uY b X.P[j]):=λj hj=>by unfold sc uY;rw[show X.P.getD j 0=X.P[j] by rw[zt,zk hj];rfl,<-ae.o]
 rw[ae.o]at r |-;obtain⟨i0,aj,aa,an,af⟩:=yX R5;have aT:=za aj;have aA:=za aa;have a1:=za an;have aH:=za af;clear aj aa an af h hf hX hP ai;go_enter func106,ntmps106;go_wp2_with fail
 refine Y.o.mono ?_;rintro e w1 ⟨q,m,c,rfl,z,aq⟩;have ah:=za aq;have aO:=za z;have aF:m=n:=by
  have:=z.now.1;obtain⟨_,⟨h0,a0,c0,hv⟩|⟨g,o,c0,hv,_⟩⟩:=z.now
  .injection hv with _ e2 _;have:=I.o;omega
  .injection hv with _ e2 _;have:=I.o;omega
 subst aF;clear aq z Y;go_wp2;obtain⟨gb,W⟩:=zD w1.heap.size;obtain⟨D,A⟩:=zD (w1.alloc (.cells #[X.k,X.m,X.u,X.g,X.s,X.l,X.up,(q,m,c)] 102));have d:Hid (Below w w D):=by show _;rw[<-A.o];exact ah.o.alloc ah.o.size _
 have aD:Hid (D.heap[gb]?=some (.cells #[X.k,X.m,X.u,X.g,X.s,X.l,X.up,(q,m,c)] 102)):=by show _=_;rw[<-A.o,<-W.o];exact zH
 have a3:Hid (tP D (q,m,c) X.P):=by show _;rw[<-A.o];exact uq.below aO.o.now (zB.alloc zL _)
 rw[A.o,W.o];go_loopw [6,14] (λo iv wr=>∃j:Nat,j<=m/\iv=.int .i64 j/\Hid (wr.ownsRow D 5 1 o (64*j) (u8s (ZN b X.P j)))/\Hid (Below D D wr)) (λ_ iv _=>m-(intOf iv).toNat)
 .exact⟨0,yh _,rfl,yL _ _ _ _,zB⟩
 .obtain⟨j,hj,rfl,HO,U⟩:=hrel;have az:=za (xV U.o aD.o);obtain⟨z0,z1,z2,z3,z4,z5,z6,z7⟩:=ug az.o;by_cases a9:j<m
  .have M:j<X.P.length:=(by rw[I.o];exact a9);have ao:j<(m:Int):=(by omega);have y:=za (d.o.trans (U.o.mono d.o.size));have Q:=za (R6 (H.o.below y.o) (HF.o.below y.o) X q m c (uq.below a3.o U.o) j (by omega) aI.o (by rw[I.o];exact aK));have aG:=za (aP.o j M);have ab:=za (om b X.P j M);have C:=za (r.o X.P[j] (Nj M));rw[aG.o]at Q;obtain⟨bl,aN⟩:∃l:List Int,Hid (uY b X.P[j]=l):=⟨uY b X.P[j],rfl⟩;rw[aN.o]at Q ab C;go_wp2_with fail
   refine Q.o.mono ?_;rintro e w3 ⟨v3,rfl,g3,E,aX,rfl,K,al,R,O⟩;rw[C.o]at K R |-;have aB:=za (js.cell (_B:=D.heap.size) (_cap:=E) C.o al R);have ad:=za (tt HO.o O);have S:=za O;clear al R O;have ba:j<=8:=(by omega);have aJ:Hid ((u8s bl).length=64):=(by show _=_;rw[wd,C.o]);have a2:=za (gZ bl);have ay:=za (zv U.o.size S.o.size);go_wp2_with (at_builtin;refine yw _ rfl _ _ 38 rfl D.heap.size 5 i0 (.int .u8 0) 1 1 u8sT aT.o aA.o a1.o aH.o rfl (by decide) _ _ _ rfl ad.o ⟨g3,0,none⟩ 64 E (u8s bl) rfl (by rw[aJ.o]) aB.o a2.o (by unfold maxLen;omega) (by omega) ay.o ?_;intro v5 w5 J f V)
   have a7:Hid (w5.ownsRow D 5 1 v5 (64*(j+1)) (u8s (ZN b X.P (j+1)))):=(by show _;rw[ab.o,pX,show 64*(j+1)=64*j+64 by omega];exact J);have aR:=za (Cd (zi U.o S.o) f (zv U.o.size S.o.size) (λq hq=>(ad.o.lt q hq).1));clear J f V;go_wp2;go_roundw
   .exact⟨j+1,by omega,by go_num,a7,aR⟩
   .simp[intOf];omega
  .obtain rfl:j=m:=(by omega);have ao:¬(j<(j:Int)):=(by omega);rw[HT.o]at z4;obtain⟨L,HL⟩:∃L:Nat,Hid (64*j=L):=⟨_,rfl⟩;rw[HL.o]at HO ht;have aw:Hid (ZN b X.P j=X.P.flatMap (uY b)):=(by show _=_;rw[<-I.o];exact Cp b X.P);have am:Hid ((ZN b X.P j).length=L):=(by show _=_;rw[<-HL.o];exact Sy r.o j (by rw[I.o];exact zL));have G:Hid (sF b X.P X.s=(ZN b X.P j).take t):=(by show _=_;unfold sF;rw[<-aw.o,HT.o];rfl);have y:=za (d.o.trans (U.o.mono d.o.size));have av:=d.o.size;obtain⟨au,⟨hv,h0⟩|⟨gq,cq,N,rfl,aC,hh,aZ,ap,ac,ak⟩⟩:=id HO.o
   .subst hv;have a8:L=0:=(by have:=am.o;omega);subst a8;obtain rfl:t=0:=(by omega);go_wp2;go_ret;refine⟨_,rfl,?_,y.o⟩;rw[G.o];simp only[xH];exact yL _ _ _ _
   .have HH:=za hh;have ax:=za ak;have a5:=za ap;have aS:=za ac;clear hh ak ap ac au;have ag:Hid (wr.ownsRow w 5 1 (gq,0,t,cq) (sF b X.P X.s).length (u8s (sF b X.P X.s))):=(by have Z:((ZN b X.P j).take t).length=t:=(by rw[Ni,am.o];omega);show _;rw[G.o,Z];refine⟨by rw[wd,Z];omega,zw ⟨gq,cq,N,rfl,zv av aC,HH.o,by omega,a5.o,aS.o,?_⟩⟩;have e2:N.toList.take (t*1)=(N.toList.take (L*1)).take t:=(by rw[we];congr 1;omega);rw[e2,ax.o,ZP]);have e1:t<=(cq:Int):=(by omega);have e3:t<=cq:=(by omega);go_wp2;go_ret;exact⟨_,rfl,ag.o,y.o⟩
structure oa (x:Tx):Prop where
 f0:256<=x.fake
 f1:x.fake<900000
 g:x.gone.length<=900
 p:x.put.length<800
 d:x.dirty.length<890
structure DirT (x:Tx) (s:Fs) (i:Nat) (X:Pn) (D:List Int):Prop where
 lt:i<32
 nd:x.nodes[i]?=some X
 pts:∀p∈X.P,PtR x s p
 fk:∀p∈X.P,0<=p/\p<=x.fake
 len:X.P.length<=8
 sz:0<=X.s/\X.s<=64*(X.P.length:Int)
 by_:sF (secT x s) X.P X.s=D
 byte:qC D
 ok:oB D=true
theorem gT {x:Tx} (hf:FsAt w0 gf s F1 a) (hb:Below w0 w0 w) (h:TxAt w w0 F gt (gf,()) x T) (hF:∀i,F i->i<w.heap.size)
 (hr:oa x) (i) (X) (D) (hd:DirT x s i X D) (e):
 Calls prog 63 #[(gt,()),(i+1:Int),.string e.1,(e.2:Int)] w
  (λr w'=>r=.returned (vA D e:Int)/\sZ w0 F gt (gf,()) (if vA D e=0 then x.fillX s.k i X (layD (outD D++[e])) else x) T w w'):=by
 have Q:=za (kO h (hf.below hb) i hd.lt X hd.nd hd.pts hd.len hd.sz);rw[hd.by_]at Q;have H:=za h;have A:=za hb;have I:Hid (∀(v) (W),mU W v D->Calls prog 113 #[v,.agg #[.string e.1,e.2]] W (Yv D e W)):=λv W P=>Jn v D e W P hd.byte hd.ok;have n:Hid (vA D e=0->∀(v) (W),Below w w W->mU W v (layD (outD D++[e]))->(∀b,v.ownBlock=some b->w.heap.size<=b)->Calls prog 112 #[(gt,()),(i+1:Int),v] W
  (λr w'=>r=.returned (.tuple #[])/\sZ w0 F gt (gf,()) (x.fillX s.k i X (layD (outD D++[e]))) T W w')):=λl v W K P M=>
  ix hf (A.o.trans (K.mono A.o.size)) (H.o.below K) (λr hr=>zr ((za hF).o r hr) K.size) i hd.lt X hd.nd v _ P (λb hb hT=>yi (H.o.fin b hT) (xn (M b hb))) (by have U:=mJ hd.ok l;have h2:=PN U;have h3:=(qO _).1 U;omega) hd.len hd.fk ⟨hr.f0,hr.f1⟩ hr.g hr.p (by have:=hr.d;omega)
 let⟨D',t⟩:=zD (layD (outD D++[e]));let⟨y,Y⟩:=zD (x.fillX s.k i X D');rw[t.o,Y.o]at n;let⟨z,C⟩:=zD (vA D e);rw[t.o,Y.o,C.o];rw[C.o]at n;go_enter func63,ntmps63;go_wp2_with fail
 refine Q.o.mono ?_;rintro r R ⟨V,rfl,m,E⟩;have q:=za E;have N:Hid (mU R V D):=⟨uq.of_owns m,pO m⟩;go_wp2_with fail
 refine (I.o V R N.o).mono ?_;rintro r w2 (⟨l,Z,rfl,j,B,c⟩|⟨l,rfl,c⟩)
 .obtain rfl:z=0:=by rwa[<-C.o]
  rw[t.o]at j;have f:=za (zi q.o c);have J:Hid (∀b,Z.ownBlock=some b->w.heap.size<=b):=λb hb=>zv q.o.size (B b hb);go_wp2_with fail
  refine (n.o trivial Z w2 f.o (za j).o J.o).mono ?_;rintro r w3 ⟨rfl,u⟩;go_wp2;go_ret;exact⟨rfl,(za (sZ.after H.o f.o u)).o⟩
 .have f:=za (zi q.o c);have S:¬z=0:=by rwa[<-C.o]
  have b1:(z==0)=false:=by simpa using S
  have aa:=za S;rw[C.o];go_wp2;go_ret;exact⟨rfl,sZ.same H.o f.o⟩
theorem KX {l:List En} {name:ByteArray} (g:(l.map (·.1)).Nodup) (i) (hi) (h:name=l[i].1):l.eraseIdx i=l.filter λy=>decide (name≠y.1):=by
 induction l generalizing i with
 | nil=>rfl
 | cons a l e=>
  rw[yB,vZ]at g;cases i with
  | zero=>
   have b:name=a.1:=h;rw[List.eraseIdx_cons_zero,vT,zb (by simp[b])];refine (uL.2 λy f=>?_).symm;grind
  | succ i=>
   grind
def qu (D:List Int) (name:ByteArray):List En:=(outD D).filter λy=>decide (name≠y.1)
def hasE (D:List Int) (name:ByteArray):Bool:=(outD D).any λy=>decide (name=y.1)
theorem El {x:Tx} (hf:FsAt w0 gf s F1 a) (hb:Below w0 w0 w) (h:TxAt w w0 F gt (gf,()) x T) (hF:∀i,F i->i<w.heap.size)
 (hr:oa x) (i) (X) (D) (hd:DirT x s i X D) (name):
 Calls prog 61 #[(gt,()),(i+1:Int),.string name] w
  (λr w'=>r=.returned (.tuple #[])/\sZ w0 F gt (gf,()) (if hasE D name=true then x.fillX s.k i X (layD (qu D name)) else x) T w w'):=by
 have V:=za (kO h (hf.below hb) i hd.lt X hd.nd hd.pts hd.len hd.sz);rw[hd.by_]at V;have H:=za h;have C:=za hb;let⟨K,B,_⟩:=su hd.ok;have u:Hid (∀(v) (W),mU W v D->Calls prog 111 #[v,.string name] W (λe w'=>(hasE D name=false/\e=.returned (.tuple #[.slice none 0 0,(4:Int)])/\Below W W w')\/(hasE D name=true/\QS (qu D name) W e w'))):=λv W U=>(Ju v D name W U hd.byte hd.ok).mono λr w' hr=>by
  rcases hr with⟨L,t⟩|⟨j,hj,J,t⟩
  .exact zu ⟨by rw[hasE,pw];intro y hy;rw[L y hy];decide,t⟩
  .refine zw ⟨by exact xO.2 ⟨_,Nj hj,J⟩,?_⟩;rwa[KX K.nodup j hj (by simpa using J)]at t
 have E:Hid (∀(v) (W),Below w w W->mU W v (layD (qu D name))->(∀b,v.ownBlock=some b->w.heap.size<=b)->Calls prog 112 #[(gt,()),(i+1:Int),v] W
  (λr w'=>r=.returned (.tuple #[])/\sZ w0 F gt (gf,()) (x.fillX s.k i X (layD (qu D name))) T W w')):=λv W O U Q=>
  ix hf (C.o.trans (O.mono C.o.size)) (H.o.below O) (λr hr=>zr ((za hF).o r hr) O.size) i hd.lt X hd.nd v _ U (λb hb hT=>yi (H.o.fin b hT) (xn (Q b hb))) (by have Z:=(qO _).1 B;have t:(qu D name).length<=(outD D).length:=vJ _ _;have h3:ud (qu D name)=0:=(qO _).2 ⟨by omega,λx hx=>Z.2.1 x ((Mo.1 hx).1),Z.2.2.sublist ((MR).map _)⟩;rw[PN h3];omega) hd.len hd.fk ⟨hr.f0,hr.f1⟩ hr.g hr.p (by have:=hr.d;omega)
 let⟨D',q⟩:=zD (layD (qu D name));let⟨y,HY⟩:=zD (x.fillX s.k i X D');let⟨z,HZ⟩:=zD (hasE D name);rw[q.o,HY.o]at E;rw[q.o,HY.o,HZ.o];rw[HZ.o]at u;go_enter func61,ntmps61;go_wp2_with fail
 refine V.o.mono ?_;rintro r Y ⟨v1,rfl,m,I⟩;have n:=za I;have R:Hid (mU Y v1 D):=⟨uq.of_owns m,pO m⟩;go_wp2_with fail
 refine (u.o v1 Y R.o).mono ?_;rintro r w2 (⟨rfl,rfl,c⟩|⟨rfl,v2,rfl,l,G,c⟩)
 .have f:=za (zi n.o c);go_wp2;exact⟨rfl,.tuple #[],(by simp[results,results61,go_sem]),rfl,sZ.same H.o f.o⟩
 .rw[q.o]at l;have f:=za (zi n.o c);have N:Hid (∀b,v2.ownBlock=some b->w.heap.size<=b):=λb hb=>zv n.o.size (G b hb);go_wp2_with fail
  refine (E.o v2 w2 f.o (za l).o N.o).mono ?_;rintro r w3 ⟨rfl,A⟩;go_wp2;exact⟨rfl,.tuple #[],(by simp[results,results61,go_sem]),rfl,(za (sZ.after H.o f.o A)).o⟩
def fitQ (s:Fs) (x:Tx) (r:Int×Int):Bool:=decide (mayQ s.rows r.1 (nt s.nodes r.1 32) ((nt x.nodes r.1 32)-(nt s.nodes r.1 32))=0)
def Qy (s:Fs) (x:Tx):Bool:=s.rows.all (fitQ s x)
theorem Kg {x:Tx} (h:TxAt w B F gt (gf,()) x T) (hf:FsAt w gf s F1 a) (hs:∀X∈s.nodes,X.P.length<=8) (hx:∀X∈x.nodes,X.P.length<=8):
 Calls prog 99 #[(gt,())] w (κ w (.bool (Qy s x))):=by
 have HF:=za hf;obtain⟨rv,gn,cn,gd,gp,gv,E,pl,U⟩:=h.lies;obtain⟨c0,_,t,_⟩:=nw U.row;have D:=xB U.row;obtain⟨nv,E',n1,n2,n3⟩:=jM hf;obtain⟨⟨gl,aT,aQ,bt,bh,E2,tl,FD,f1,f2,f3,f4,f5,f6,f7,_⟩,_,q,_⟩:=hf;obtain⟨_,_,i,_⟩:=sW f1;have V:=xB f1;have a5:=za f7.now;obtain⟨ar,L,ai,N⟩:=P9 f7.now;subst ai;have aw:=za N;obtain⟨n,G⟩:=zD s.rows.length;have aK:n<=20:=by rw[<-G.o];exact HF.o.rows
 have ap:Hid (∀(W) (u),Below w w W->Calls prog 109 #[nv,(u:Int)] W (κ W (nt s.nodes u 32:Int))):=λW u f=>OX (n2.below f) (n3.keep (yK.of_below f)) q hs u;have ax:Hid (∀(W) (u),Below w w W->Calls prog 109 #[.slice (some ⟨gn,0,none⟩) 32 cn,(u:Int)] W (κ W (nt x.nodes u 32:Int))):=λW u f=>OX (by rw[h.len];exact (uq.of_owns U.own).below f) (U.nds.keep (yK.of_below f)) h.len hx u;have HM:Hid (∀(W) (u),Below w w W->Calls prog 139 #[(ar,n,L),(u:Int),(nt s.nodes u 32:Int),((nt x.nodes u 32)-(nt s.nodes u 32):Int)] W (κ W (mayQ s.rows u (nt s.nodes u 32) ((nt x.nodes u 32)-(nt s.nodes u 32)):Int))):=λW u f=>by have h1:=Mm hs u 32;have h2:=Mm hx u 32;have:=JL (ar,s.rows.length,L) s.rows u (nt s.nodes u 32) ((nt x.nodes u 32:Int)-(nt s.nodes u 32:Int)) W (a5.o.below f) (by rw[G.o];omega) (by omega) (by omega) (by omega) (by omega);rw[G.o]at this;exact this
 have K:Hid (∀u,(nt s.nodes u 32<=256)/\nt x.nodes u 32<=256):=λu=>⟨Mm hs u 32,Mm hx u 32⟩;rw[G.o]at i;have Z:Hid (w.cell? (gt,0)=some (.pointer (some ⟨gf,0,none⟩))/\w.cell? (gt,194)=some (.slice (some ⟨gn,0,none⟩) 32 cn)/\w.cell? (gf,194)=some (.slice ar n L)/\w.cell? (gf,195)=some nv):=⟨c0,t,i,n1⟩;clear h U hs hx f1 f2 f3 f4 f5 f6 f7 n2 n3 N t n1 q;go_enter func99,ntmps99;go_wp2;clear c0 i;go_loopw [14] (λiv wr=>∃j:Nat,j<=n/\iv=.int .i64 (j:Int)/\Hid ((s.rows.take j).all (fitQ s x)=true)/\Hid (Below w w wr)) (λiv _=>n-(intOf iv).toNat)
 .exact⟨0,yh _,rfl,rfl,zB⟩
 .obtain⟨j,hj,rfl,HA,Y⟩:=hrel;by_cases av:j<n
  .have ac:j<(n:Int):=(by omega);obtain⟨g,o,rfl,hg,hc⟩:=aw.o (by rw[G.o];omega);have A:j<s.rows.length:=(by rw[G.o];exact av);obtain⟨r0,r1⟩:=hc j A;obtain⟨u,l,Hr⟩:∃u l,Hid (s.rows[j]=(u,l)):=⟨s.rows[j].1,s.rows[j].2,za rfl⟩;rw[Hr.o]at r0 r1;have ak:Hid ((s.rows.take (j+1)).all (fitQ s x)=fitQ s x (u,l)):=(by show _=_;rw[iD _ _ _ (zk A),List.all_append,HA.o,Nq,Hr.o];simp);have y0:wr.cell? (g,o+j*2)=some (.int .i64 u):=(Y.o.cell (p:=⟨g,o+j*2,none⟩) hg).trans r0;have y1:wr.cell? (g,o+j*2+1)=some (.int .i64 l):=(Y.o.cell (p:=⟨g,o+j*2+1,none⟩) hg).trans r1;clear hc r0 r1;go_wp2_with fail
   obtain⟨W1,H⟩:=zD (wr.alloc (.cells #[u,l] 193));have c:Hid (Below w w W1):=(by show _;rw[<-H.o];exact Y.o.alloc Y.o.size _);obtain⟨gr,J⟩:=zD wr.heap.size;have C:W1.heap[gr]?=some (.cells #[u,l] 193):=(by rw[<-H.o,<-J.o];exact zH);have M:W1.cell? (gr,0)=some (.int .i64 u):=zC C;have p0:=(c.o.cell (p:=⟨gt,0,none⟩) D).trans Z.o.1;have p1:=(c.o.cell (p:=⟨gf,195,none⟩) V).trans Z.o.2.2.2;have km:=xX M;have k0:=xX p0;have k1:=xX p1;have Q:=za C;clear y0 y1 C M p0 p1;rw[H.o,J.o];refine vg (by kernel_rfl) (by kernel_rfl) ?_
   repeat (first
    | go_big_quiet_skip
    | (refine sG 109 #[.tmp 24,.tmp 26] #[88,3] rfl rfl (λ_ _=>by kernel_rfl) #[nv,u] (by kernel_rfl) (.int .i64 (nt s.nodes u 32:Int)) (λ_ _=>vY) (λw' S=>ap.o w' u (c.o.trans ((us S).mono c.o.size))) ?_;simp only[Act.put,zP,yf,yb])
    | (go_big_quiet_want;go_big_quiet_op;go_big_quiet_on))
   refine vn ?_;intro w2 y;have b:=za (c.o.trans ((us y).mono c.o.size));have M:w2.cell? (gr,0)=some (.int .i64 u):=(zC (xV (us y) Q.o));have p0:=(b.o.cell (p:=⟨gt,0,none⟩) D).trans Z.o.1;have p1:=(b.o.cell (p:=⟨gf,194,none⟩) V).trans Z.o.2.2.1;have p2:=(b.o.cell (p:=⟨gt,194,none⟩) D).trans Z.o.2.1;have au:=xX M;have ay:=xX p0;have a9:=xX p1;have ao:=xX p2;clear km k0 k1 y M p0 p1 p2;obtain⟨r,k⟩:∃z:Nat,Hid (nt s.nodes u 32=z):=⟨_,za rfl⟩;obtain⟨I,m⟩:∃z:Nat,Hid (nt x.nodes u 32=z):=⟨_,za rfl⟩;obtain⟨z,HZ⟩:=zD (mayQ s.rows u r ((I:Int)-(r:Int)));have v:fitQ s x (u,l)=decide (z=0):=(by unfold fitQ;rw[k.o,m.o,HZ.o]);have ab:=za v;have hm:=HM.o;have iw:IntKind.i64.wrap (I-r)=I-r:=zM _ (by have h1:=(K.o u).1;have h2:=(K.o u).2;rw[k.o]at h1;rw[m.o]at h2;omega);have a6:Hid (∀W,Below w w W->Calls prog 139 #[(g,o,n,L),u,r,(I-r:Int)] W (κ W z)):=λW f=>(by have:=hm W u f;rw[k.o,m.o,HZ.o]at this;exact this);have ae:Hid (∀W,Below w w W->Calls prog 109 #[.slice (some ⟨gn,0,none⟩) 32 cn,u] W (κ W I)):=λW f=>(by have:=ax.o W u f;rw[m.o]at this;exact this);rw[k.o];clear hm v;go_wp2_with fail
   refine vg (by kernel_rfl) (by kernel_rfl) ?_
   repeat (first
    | go_big_quiet_skip
    | (refine sG 109 #[.tmp 41,.tmp 43] #[88,3] rfl rfl (λ_ _=>by kernel_rfl) #[.slice (some ⟨gn,0,none⟩) 32 cn,u] (by kernel_rfl) (.int .i64 (I:Int)) (λ_ _=>vY) (λw' S=>ae.o w' (b.o.trans ((us S).mono b.o.size))) ?_;simp only[Act.put,zP,yf,yb])
    | (refine sG 139 #[.tmp 34,.tmp 36,.tmp 37,.tmp 46] #[87,3,3,3] rfl rfl (λ_ _=>by kernel_rfl) #[(g,o,n,L),u,r,.int .i64 ((I:Int)-(r:Int))] (by kernel_rfl) (.int .i64 z) (λ_ _=>vY) (λw' S=>a6.o w' (b.o.trans ((us S).mono b.o.size))) ?_;simp only[Act.put,zP,yf,yb])
    | (go_big_quiet_want;go_big_quiet_op;go_big_quiet_on))
   refine vn ?_;intro w3 O;have R:=za (b.o.trans ((us O).mono b.o.size));clear au ay a9 ao O;by_cases hz:z=0
   .subst hz;have a3:Hid ((s.rows.take (j+1)).all (fitQ s x)=true):=(by show _=_;rw[ak.o,ab.o];rfl);go_wp2;go_roundw
    .exact⟨j+1,by omega,by go_num,a3,R⟩
    .simp[intOf];omega
   .have b0:(z==0)=false:=(by simpa using hz);have b1:(z != 0)=true:=(by simpa using hz);have d:Hid (Qy s x=false):=(by show s.rows.all (fitQ s x)=false;rw[List.all_eq_false];refine⟨(u,l),by rw[<-Hr.o];exact Nj A,?_⟩;rw[ab.o];simpa using hz);go_wp2;go_ret;exact⟨by rw[d.o];rfl,R.o⟩
  .obtain rfl:j=n:=(by omega);have ac:¬j<(j:Int):=(by omega);have d:Hid (Qy s x=true):=by
    show s.rows.all (fitQ s x)=true;have:=HA.o
    rwa [zo (wZ G.o)]at this
   go_wp2;go_ret;exact⟨by rw[d.o];rfl,Y.o⟩
def dfF (w:World) (gt gp n:Nat) (v:Value) (D:List Int) (i:Nat) (u:Value) (W:World):Prop:=
 if i=2 then u=.pointer (some ⟨gt,196,none⟩) else if i=3 then u=.map (some gp) else if i=4 then u=.int .i64 n else if i=5 then u=v else if i=6 then js W w.heap.size u D else u=.pointer (some ⟨gt,0,none⟩)
theorem Fn (j) (u) (W W':World) (b:Below W W W') (h:dfF w gt gp n v D j u W):dfF w gt gp n v D j u W':=by
 unfold dfF at h |-;by_cases c:j=2
 .rw[ze c]at h |-;exact h
 rw[zb c]at h |-;by_cases c:j=3
 .rw[ze c]at h |-;exact h
 rw[zb c]at h |-;by_cases c:j=4
 .rw[ze c]at h |-;exact h
 rw[zb c]at h |-;by_cases c:j=5
 .rw[ze c]at h |-;exact h
 rw[zb c]at h |-;by_cases c:j=6
 .rw[ze c]at h |-;exact P8 h λg _ _ a=>b.block g (xB a)
 lia
theorem Uf {x:Tx} (hf:FsAt w0 gf s F1 a) (hb:Below w0 w0 w) (h:TxAt w w0 F gt (gf,()) x T)
 (n) (hn:n<s.k) (v) (D) (hv:uM w v D) (hD:D.length=64) (an:x.put.length<900):
 Calls prog 142 #[(gt,()),(n:Int),v] w
  (ρ (.tuple #[]) λw'=>sZ w0 F gt (gf,()) {x with put:=if eqB (secE s n) D=true then x.put else putZ x.put n D} T w w'):=by
 let⟨rv,gn,cn,gd,Y,gv,E,pl,W⟩:=h.lies;let⟨c0,z,M,C,p,U,L,B⟩:=nw W.row;have H:=za h;have HL:=za W;have al:=za hb;have HV:=za hv;have V:=za (OG (hf.below hb) n hn);have y:=za (iI hf n hn);have a6:=za hf.k1;have aN:(n:Int)<1000:=by have:=hf.k1;omega
 have J:Hid (pl.length<900):=by show _;rwa[W.secs.len]
 let⟨S,HS⟩:=zD (secE s n);rw[HS.o]at V y |-;let⟨b,Hb⟩:=zD (eqB S D);rw[Hb.o];go_enter func142,ntmps142;go_wp2_with fail
 refine V.o.mono ?_;rintro e w1 ⟨v1,rfl,t⟩;have O:=za t.below;have aj:=za t.at;have G:=za (tF v1 v S D w1 aj.o (uq.below HV.o O.o) (by rw[y.o,hD]) (by rw[y.o];omega));rw[Hb.o]at G;go_wp2_with fail
 refine G.o.mono ?_;rintro e w2 ⟨rfl,K⟩;have l:=za (zi O.o K);cases b with
 | true=>
  go_wp2
  go_end0
  exact⟨rfl,sZ.same H.o l.o⟩
 | false=>
  have Q:=za (HL.o.below l.o);have am:=za (H.o.below l.o);have ao:Hid (uM w2 v D):=uq.below HV.o l.o;have ab:=za l.o.size;clear c0 z M C p U L B
  go_upto_region 2 with fail
  refine Zh rfl (by kernel_rfl) (λu u'=>Below u u u') (zB.drew) (λu u' h1 h2=>zi h1 h2) 28 (λi=>i+21) (dfF w2 gt Y n v D) (λ_ _=>False)
   (λk u=>(k=0/\u=.pointer (some ⟨gt,0,none⟩))\/(k=1/\u=.int .i64 (n:Int))\/(k=2/\u=v)) Fn (λ_ _ f=>f.elim) (λi j a8=>by omega) (λi k u hk=>by rcases hk with⟨rfl,_⟩|⟨rfl,_⟩|⟨rfl,_⟩<;>omega) 7 (by kernel_rfl) rfl ⟨rfl,rfl,λk u hk=>?_⟩ ?_ ?_
  .rcases hk with⟨rfl,rfl⟩|⟨rfl,rfl⟩|⟨rfl,rfl⟩<;>rfl
  .intro Dn b u d i o ac c ar m;have ap:=d.old 0 _ (zu ⟨rfl,rfl⟩);have ai:=d.old 1 _ (zw (zu ⟨rfl,rfl⟩));have af:=d.old 2 _ (zw (zw ⟨rfl,rfl⟩))
   match i,ac,c,ar,m with
   | 0,_,c,_,m=>
    simp[zf,zm]at c;subst c;exact tj (.tmp 0) rfl ⟨_,rfl,zB,ap,λ_ f=>f.elim⟩
   | 1,_,c,_,m=>
    simp[zf,zh,zm]at c;subst c;have e0:=d.fact 0 (m ⟨0,.data⟩ (by simp) rfl);exact kU (.tmp 21) rfl ⟨gt,0,none⟩ e0 ⟨_,rfl,zB,rfl,λ_ f=>f.elim⟩
   | 2,_,c,_,m=>
    simp[zf,zh,zm]at c;subst c;have e1:=d.fact 1 (m ⟨1,.data⟩ (by simp) rfl);exact vI (v:=.pointer (some ⟨gt,196,none⟩)) (w':=u) (by unfold execOp;simp only[Act.eval];rw[show b.tmps.getD 22 undef=_ from e1];simp[go_sem]) ⟨_,rfl,zB,rfl,λ_ f=>f.elim⟩
   | 3,_,c,_,m=>
    simp[zf,zh,zm]at c;subst c;have e2:=d.fact 2 (m ⟨2,.data⟩ (by simp) rfl);let⟨_,_,_,_,p,_⟩:=nw (xV d.b Q.o.row);exact vI (v:=.map (some Y)) (w':=u) (by unfold execOp;simp only[Act.eval];rw[show b.tmps.getD 23 undef=_ from e2];simp[go_sem,p]) ⟨_,rfl,zB,rfl,λ_ f=>f.elim⟩
   | 4,_,c,_,m=>
    simp[zf,zh,zm]at c;subst c;exact tj (.tmp 1) rfl ⟨_,rfl,zB,ai,λ_ f=>f.elim⟩
   | 5,_,c,_,m=>
    simp[zf,zh,zm]at c;subst c;exact tj (.tmp 2) rfl ⟨_,rfl,zB,af,λ_ f=>f.elim⟩
   | 6,_,c,_,m=>
    simp[zf,zh,zm]at c;subst c;have e5:b.tmps.getD 26 undef=v:=d.fact 5 (m ⟨5,.data⟩ (by simp) rfl);refine lZ 104 #[.tmp 26] #[38] rfl (λ_ _=>by kernel_rfl) #[v] (by simp only[uu,yB,vS,Act.eval];rw[e5];rfl) (λX w'=>Lb D u X w')
     ((ZH v D u (uq.below ao.o d.b) (by omega) (by omega)).mono λe w' ⟨X,he,x1⟩=>⟨X,he,x1⟩) ?_
    rintro X w' ⟨g,ak,aa,q1,q2,q3,q4,q5⟩;exact⟨_,rfl,q5,⟨g,ak,aa,by rw[q1,hD],hD,by rw[<-hD];exact q2.2,zv d.b.size q2.1,q3,by rwa[<-hD]⟩,λ_ f=>f.elim⟩
  .intro Dn b u d q o c;simp only[zf,zh,zm]at c;subst c;have e3:b.tmps.getD 24 undef=.map (some Y):=d.fact 3 (q 3 (by omega));have e4:b.tmps.getD 25 undef=.int .i64 n:=d.fact 4 (q 4 (by omega));have e6:js u w2 (b.tmps.getD 27 undef) D:=d.fact 6 (q 6 (by omega));have A:=Q.o.below d.b;generalize ah:b.tmps.getD 27 undef=u6 at e6;let⟨w6,N,ae,Z⟩:=A.puts.store intT Qw (by have:=J.o;omega) (k:=(n:Int)) (by unfold InZ;omega) u6;refine TS (w':=w6) (by unfold execOp;simp only[Act.eval];rw[e3,e4,ah];simp[N,Result.andThen]) ?_;have I:yK (λi=>i=Y) u w6:=yK.grown Z.grown (λr hr=>by injection hr with hr;exact hr.symm);have P:=zi l.o d.b;refine⟨d.dfs,.tuple #[],(by simp[results,results142,go_sem]),rfl,T,?_,λ_ R=>zu R,(yK.of_below P).step (I.mono λi _ R=>by rw[R];exact HL.o.tp),λ_ R=>R⟩;rw[zb (by decide)];exact A.putMap (am.o.below d.b) (n:Int) _ D (e6.mono (zv al.o.size ab.o)) I ae (by have:=J.o;rw[<-HL.o.secs.len];omega)
def qN {α:Type} (t p:List (Int×α)):List (Int×α):=p.foldl (λt y=>putZ t y.1 y.2) t
theorem Ui {α:Type} {a b:Int} (j:a≠b) (x y:α):∀z:List (Int×α),putZ (putZ z a x) b y=putZ (putZ z b y) a x
 | []=>by
  simp[putZ];lia
 | c::z=>by
  simp[putZ];by_cases f:a<c.1
  .rw[ze f];by_cases d:b<c.1
   .rw[ze d];simp[putZ];lia
   .rw[zb d];by_cases e:b=c.1
    .rw[ze e];simp[putZ];lia
    .rw[zb e];simp[putZ];lia
  .rw[zb f];by_cases g:a=c.1
   .rw[ze g];by_cases d:b<c.1
    .rw[ze d];simp[putZ];lia
    .rw[zb d,zb (by omega)];simp[putZ];lia
   .rw[zb g];by_cases d:b<c.1
    .rw[ze d];simp[putZ];lia
    .rw[zb d];by_cases e:b=c.1
     .rw[ze e];simp[putZ];lia
     .rw[zb e];simp[putZ];rw[zb d,zb e,zb f,zb g,Ui j x y z]
theorem Uu {α:Type}:∀{l:List (Int×α)},(l.map (·.1)).Nodup->∀{x y:Int×α},x∈l->y∈l->x.1=y.1->x=y
 | [],_,x,y,b,_,_=>by cases b
 | c::l,d,x,y,b,a,h=>by
  rw[yB,vZ]at d;rcases yZ.1 b with b|b
  .grind
  .rcases yZ.1 a with a|a
   .grind
   .exact Uu d.2 b a h
theorem OB {t p q:List (Int×α)} (c:p.Perm q) (d:(p.map (·.1)).Nodup):qN t p=qN t q:=by
 refine c.foldl_eq' (λx b y a z=>?_) t;by_cases h:x.1=y.1
 .have:=Uu d b a h;lia
 .exact Ui (λe=>h (by lia)) _ _ _
theorem jb (t:List (Int×α)):∀p:List (Int×α),(qN t p).length<=t.length+p.length:=λp=>by
 unfold qN
 induction p generalizing t with
 | nil=>simp
 | cons y p a=>
  have c:=a (putZ t y.1 y.2);have b:=pT y.1 y.2 t;grind
def dfK (s:Fs) (b:List Int) (put:List (Int×List Int)):Nat->List (Int×List Int)
 | 0=>put
 | j+1=>if eqB (secE s (1+j)) (sec b j)=true then dfK s b put j else putZ (dfK s b put j) ((1+j:Nat):Int) (sec b j)
def dfQ (s:Fs) (q:List Int) (put:List (Int×List Int)):List (Int×List Int):=if eqB (secE s 4) q=true then put else putZ put ((4:Nat):Int) q
def ua (x:Tx) (s:Fs):List (Int×List Int):=dfQ s (RK x.rows.length x.rows) (dfK s (uc x.fo) x.put 3)
theorem ni (s:Fs) (b:List Int) (put:List (Int×List Int)):∀j,(dfK s b put j).length<=put.length+j
 | 0=>zL
 | j+1=>by
  have a:=ni s b put j;unfold dfK;split
  .omega
  .have:=pT ((1+j:Nat):Int) (sec b j) (dfK s b put j);omega
theorem VR (s:Fs) (q:List Int) (put:List (Int×List Int)):(dfQ s q put).length<=put.length+1:=by
 unfold dfQ;split
 .omega
 .exact pT _ _ _
theorem Xw (d n:Value) (fo m:Fo) (rv o p hv:Value):((fsR d n fo rv o p hv).toList.take 2++(encF m).toList++(fsR d n fo rv o p hv).toList.drop (2+(encF m).size)).toArray=fsR d n m rv o p hv:=by
 apply yV;intro i;have c:(encF m).toList.length=192:=by simpa using vX m
 have a:(fsR d n fo rv o p hv).toList.length=198:=by simpa using kH d n fo rv o p hv
 have f:∀j,(fsR d n fo rv o p hv).toList[j]?=(fsR d n fo rv o p hv)[j]? :=λj=>zK;rw[xw,vX];by_cases k:i<2
 .rw[zR,zV (by rw[Ni,a];omega),zI,ze k,f,rP _ _ _ _ _ _ _ _ (by omega),rP _ _ _ _ _ _ _ _ (by omega)];unfold pZ;lia
 .by_cases g:i<194
  .rw[zR,zx (by rw[Ni,a];omega),zV (by rw[Ni,a,c];omega),Ni,a,zK,show i-min 2 198=i-2 by omega];have:=Tr d n m rv o p hv (i-2) (by rw[vX];omega);grind
  .rw[zR,zx (by grind),zx (by rw[Ni,a,c];omega),yy,Ni,a,c,f];rw[show 2+192+(i-min 2 198-192)=i by omega];by_cases e:i<198
   .rw[rP _ _ _ _ _ _ _ _ e,rP _ _ _ _ _ _ _ _ e];unfold pZ;lia
   .rw[zY (by grind),zY (by rw[kH];omega)]
theorem Tq (d c:Value) (fo:Fo) (rv e f g:Value) (i:Nat) (_h:194<=i) (u:Value) (h:i<198):(fsR d c fo rv e f g).setIfInBounds i u=Array.ofFn (n:=198) λj=>if j.val=i then u else pZ d c fo rv e f g j.val:=by
 apply yV;intro j;rw[yH,kH];by_cases b:i=j
 .simp_all
 .rw[zb b];by_cases a:j<198
  .rw[rP _ _ _ _ _ _ _ _ a];simp[a,yA b]
  .rw[zY (by rw[kH];omega),zY (by simp;omega)]
theorem GX (d a:Value) (fo:Fo) (rv b c hv u:Value):(fsR d a fo rv b c hv).setIfInBounds 194 u=fsR d a fo u b c hv:=by
 rw[Tq _ _ _ _ _ _ _ 194 (by omega) u (by omega)];rfl
theorem DJ (d a:Value) (fo:Fo) (rv c b hv u:Value):(fsR d a fo rv c b hv).setIfInBounds 195 u=fsR d a fo rv u b hv:=by
 rw[Tq _ _ _ _ _ _ _ 195 (by omega) u (by omega)];rfl
theorem uT.without {d:Value} {FD:Nat->Prop} (h:uT w d st k FD) (I:w.heap[g]?=some (.cells c t fr)) (K:t≠136) (J:t≠5) (M:t≠138):uT w d st k (λi=>FD i/\i≠g):=by obtain⟨p,q,y,F,E,L,rfl,a⟩:=h;refine⟨p,q,y,F,E,L,rfl,{a with fd:=⟨a.fd,ve a.hd I (yA K)⟩,fs:=⟨a.fs,ve a.hs I (yA J)⟩,fn:=⟨a.fn,ve a.hn I (yA J)⟩,fw:=λb j=>⟨a.fw b j,λG=>rC a.own I (yA M) (by rw[j,G])⟩,ent:=?_,fin:=λi x=>a.fin i x.1}⟩;intro i n v B;let⟨r,D,H,s,e,f,z,u,A,C,m,l,o⟩:=a.ent i n v B;exact⟨r,D,H,s,e,f,z,u,⟨A,ve l I (yA J)⟩,C,m,l,o⟩
theorem Gw {gl:Nat} {sq:Int} (h:w.heap[gl]?=some (.cells (logR a sq) 178)):
 Calls prog 143 #[(gl,())] w (λe w'=>e=.returned (30:Int)/\w=w'):=by
 have b:w.cell? (gl,2)=some (.int .i64 32):=xQ _ _ 2 _ _ _ h;go_enter func143,ntmps143;go_wp2;go_ret;simp
theorem ID {_base _c:Nat} {cur:Array Value} (f:D.length=n) (h:w.heap[g]?=some (.cells cur t)) (i:cur.toList.take n=u8s D) (o m e:Nat) (k:o+m<=n):uM w (g,o,m,e) ((D.drop o).take m):=by
 have a:((D.drop o).take m).length=m:=by grind
 refine⟨by rw[wd,a,vB],zw ⟨g,o,e,by rw[a],λj x c=>?_⟩⟩;have b:j<m:=by
  have:=(zG.1 c).1
  rwa [wd,a]at this
 rw[zC h,<-zK];have d:(cur.toList.take n)[o+j]?=(u8s D)[o+j]? :=by rw[i]
 rw[zI,ze (by omega)]at d;rw[d];rw[ZP,zI,ze b,no,yy]at c;exact c
theorem fy.not_cells {K:TypeId} {b r:Nat} {l done:List (Int×Value)} {cnt:Nat} (h:fy P K w b r l done cnt) (z:w.heap[g]?=some (.cells c t fr)):g≠r:=by rintro rfl;let⟨p,m,s,n,i,⟨q,e,d,f,x,o,y,u,j,a,k⟩,v⟩:=h;lia
theorem D4 {β:Type}:∀{pl:List (Int×α)} {put:List (Int×β)} (d:β),pl.map (·.1)=put.map (·.1)->rB pl->pl.map (λy=>(y.1,(getZ put y.1).getD d))=put:=λ{pl put} d a g=>by
 have c:rB put:=by have b:(pl.map (·.1)).Pairwise (· < ·):=wU.2 g;rw[a]at b;exact wU.1 b
 have e:pl.map (λy=>(y.1,(getZ put y.1).getD d))=(pl.map (·.1)).map (λk=>(k,(getZ put k).getD d)):=by simp
 rw[e,a,vo]
 conv=>rhs;rw[<-List.map_id put]
 refine uI λy f=>?_;show (y.1,(getZ put y.1).getD d)=y;rw[ux c (k:=y.1) (v:=y.2) f];rfl
def kpF (gt gf:Nat) (A:Array Value) (rv nv:Value) (i:Nat) (v:Value):Prop:=
 if i=5 then v=.pointer (some ⟨gt,1,none⟩) else if i=6 then v=.agg A else if i=9 then v=.pointer (some ⟨gt,193,none⟩) else if i=10 then v=rv else if i=13 then v=.pointer (some ⟨gt,194,none⟩) else if i=14 then v=nv
 else if i=16 then v=.pointer (some ⟨gf,2,none⟩) else if i=19 then v=.pointer (some ⟨gf,194,none⟩) else if i=22 then v=.pointer (some ⟨gf,195,none⟩) else if i=17\/i=20\/i=23 then v=undef
 else if i=0\/i=1\/i=2\/i=15\/i=18\/i=21 then v=.pointer (some ⟨gf,0,none⟩) else v=.pointer (some ⟨gt,0,none⟩)
theorem SP {a:Act} (m:TypeId) (x y:Operand) (u:o.op=.store m x y)
 (g k:Nat) (q:Option Addr) (n c:Nat) (v:a.eval x=.pointer (some (g,k))) (z:a.eval y=.slice q n c) (r:(P.info? m).map (·.size)=some 1)
 (l:Array Value) (t:TypeId) (s:w.heap[g]?=some (.cells l t)) (p:k<l.size)
 (h:K (a.put o.dst undef) (w.setCell (g,k) (q,n,c))):o.wp P a w K Q:=by
 have f:w.cell? (g,k)=some l[k]:=by rw[zC s];exact xx p
 cases b:P.info? m with
 | none=>simp[b]at r
 | some i=>
  simp only[Oper.wp,execOp,u,v,z];have j:(sizeOf m).run P w=.ok 1 w:=by simp[sizeOf,typeInfo,b,by simpa[b]using r]
  simp[go_sem,j,f,zF s,Result.andThen];exact h
theorem vr.drop {w:World} {B:Nat} {k:Int}:∀{pl} {l},vr w B pl l->vr w B (delZ pl k) (delZ l k)
 | [],[],_=>vr.nil _ _
 | [],y::l,h=>by have:=h.len;grind
 | x::pl,[],h=>by have:=h.len;grind
 | x::pl,y::l,h=>by
  let⟨b,c,d⟩:=h.tail;have a:=vr.drop (k:=k) d;unfold delZ at a |-;rw[vT,vT,b];split
  .exact vr.cons b c a
  .exact a
theorem Fp (l:List (Int×α)) (k):(delZ l k).length<=l.length:=vJ _ _
theorem mV.nodeAt {x:Tx} (h:mV w B F T gt fp x rv gn cn gd gp gv E pl) (S:x.nodes.length=32) (i) (V:i<32) (X) (U:x.nodes[i]?=some X):
 ∃yq yn yc,w.cell? ⟨gn,i*8,none⟩=some (.int .i64 X.k)/\w.cell? ⟨gn,i*8+1,none⟩=some (.int .i64 X.m)/\w.cell? ⟨gn,i*8+2,none⟩=some (.int .i64 X.u)/\w.cell? ⟨gn,i*8+3,none⟩=some (.int .i64 X.g) /\
  w.cell? ⟨gn,i*8+4,none⟩=some (.int .i64 X.s)/\w.cell? ⟨gn,i*8+5,none⟩=some (.int .i64 X.l)/\w.cell? ⟨gn,i*8+6,none⟩=some (.int .i64 X.up)/\w.cell? ⟨gn,i*8+7,none⟩=some (.slice yq yn yc) /\
  Out (λi=>F i\/T i) w (λw'=>tP w' (yq,yn,yc) X.P):=by
 have f:E.length=32:=by rwa[h.nds.1]
 have p:uq w (.slice (some ⟨gn,0,none⟩) 32 cn) 8 E.length (ue E):=by rw[f];exact uq.of_owns h.own
 let⟨Q,I,j,D⟩:=rR p;rw[f]at j D;injection j with c _ a;subst c a;let⟨g,o,b,R,O⟩:=D.o (by omega);injection b with b;injection b with c a;subst c a;have e:i<E.length:=by omega
 have d:i<x.nodes.length:=by omega
 let⟨q,c,a,z,A,r,t,C⟩:=sB O i e;have n:=h.nds.2 i e d;have y:x.nodes[i]=X:=by rw[zk d]at U;injection U
 rw[y]at n;let⟨G,H,L,N,M,J,K,v⟩:=n;grind
def gonS (s:Nat->Bool) (g:List Int):Nat->Bool:=g.foldl (λs p=>del s p.toNat) s
def gonP (put:List (Int×List Int)) (g:List Int):List (Int×List Int):=g.foldl (λt p=>delZ t p) put
theorem GP (g):∀put,(gonP put g).length<=put.length:=by
 unfold gonP
 induction g with
 | nil=>simp
 | cons p g a=>intro put;rw[ww];exact zv (a _) (Fp _ _)
def oo (X:Pn):List Int:=tc X.k X.m X.u X.g X.s X.l X.up X.P
def QG (X:Pn):Int:=tm X.k X.m X.u X.g X.s X.l X.up X.P
def atL (L:List (Option Value)) (i:Nat) (v:Value):Prop:=match L[i]? with|some (some x)=>v=x|_=>True
theorem Fy (l) (j:Nat):(byts l)[j]?=(u8s l)[j]? :=by simp[byts,u8s]
theorem lQ {l:List Int} (h:w.heap[g]?=some (.cells (byts l) t)) (j) (y) (b:(u8s l)[j]?=some y):w.cell? ((⟨g,0,none⟩:Addr).add j)=some y:=by
 have a:(⟨g,0,none⟩:Addr).add j=⟨g,j,none⟩:=by unfold Addr.add;lia
 rw[a,zC h,Fy,b]
theorem EU {B':Nat} {xs:List Value} (h:w.ownsRow B 5 1 v (32+32) xs) (j:D.length=64) (k:u8s D=xs) (hB:B'<=B):js w B' v D:=by
 obtain⟨_,⟨_,i⟩|⟨g,c,b,rfl,e,d,a,_,_,f⟩⟩:=h
 .cases i
 .exact⟨g,c,b,rfl,j,a,zv hB e,d,by rwa[k]⟩
theorem Cs {a:Act} (s x) (t) (p:o.op=Op.call {callee:=Callee.builtin Builtin.append,args:=#[s,x],argTypes:=#[t,t]})
 (e) (i) (z) (size bytes) (q:P.underlying t=some (.slice e)) (r:P.info? e=some i) (v:i.zero=some z) (y:i.size=size) (A:i.bytes=bytes) (B:z.cells.size=size) (C:0<size)
 (b) (n cap) (olds) (D:a.eval s=.slice (some b) n cap) (l:olds.length=n*size) (h:∀j u,olds[j]?=some u->w.cell? (b.add j)=some u)
 (ad) (m c) (news) (E:a.eval x=.slice (some ad) m c) (F:news.length=m*size) (G:∀j u,news[j]?=some u->w.cell? (ad.add j)=some u)
 (k:cap<n+m) (H:n+m<=maxLen) (b2:(n+m)*bytes<=140737488355328)
 (I:∀v' w',w'.ownsRow w e size v' (n+m) (olds++news)->w.grownBy w' none->K (a.put o.dst v') w'):o.wp P a w K Q:=by
 let⟨v',w',d,g,f⟩:=run_append_arg_grows (P:=P) w t o.type e i z size bytes q r v y A B C b n cap olds l h ad m c news F G k H b2;simp[Oper.wp,execOp,p,resolve,invoke,builtin,D,E,d,Result.andThen];exact I v' w' g f
theorem mV.withFo {x:Tx} (h:mV w B F T gt fp x rv gn cn gd gp gv E pl) (n:T gt) (fo)
 (m:yK (λi=>i=gt) w w') (o:w'.heap[gt]?=some (.cells (txR fp fo rv (.slice (some ⟨gn,0,none⟩) 32 cn) (.map (some gd)) (.map (some gp)) gv x.full x.fake) 92)):mV w' B F T gt fp {x with fo:=fo} rv gn cn gd gp gv E pl:=by
 have c:yK T w w':=m.mono λi _ e=>by rwa[e]
 have d:∀b,b<w.heap.size->b≠gt->w'.heap[b]?=w.heap[b]? :=λb k j=>m.block b k j;refine⟨o,kw h.rows c (λ_ e=>zu e),?_,iA h.nds c (λ_ e=>zu e),?_,?_,?_,h.ne,?_,h.tn,h.td,h.tp,h.tg⟩
 .exact vE h.own λb a=>d b (h.own.lt b a).2 (tK h.own h.row (by decide) b a)
 .exact h.dirt.of_block (d gd h.dirt.lt (yA (xM h.row h.dirt)))
 .exact h.puts.of_block (d gp h.puts.lt (yA (xM h.row h.puts)))
 .exact h.secs.keep λg l _ f=>d g (xB f) (ve f h.row (by decide))
 .exact vE h.gone λb a=>d b (h.gone.lt b a).2 (tK h.gone h.row (by decide) b a)
theorem mV.withPut {x:Tx} {pl':List (Int×Value)} {l':List (Int×List Int)} (h:mV w B F T gt fp x rv gn cn gd gp gv E pl)
 (v:yK (λi=>i=gp) w w') (y:MapL prog 3 w' gp pl') (z:vr w' B pl' l'):mV w' B F T gt fp {x with put:=l'} rv gn cn gd gp gv E pl':=by
 have c:yK T w w':=v.mono λi _ d=>by rw[d];exact h.tp
 have e:∀b,b<w.heap.size->b≠gp->w'.heap[b]?=w.heap[b]? :=λb n k=>v.block b n k;let⟨q,m,u,p,t,s,o⟩:=h.block;refine⟨(e gt (xB h.row) (xM h.row h.puts)).trans h.row,kw h.rows c (λ_ d=>zu d),?_,iA h.nds c (λ_ d=>zu d),?_,y,z,h.ne,?_,h.tn,h.td,h.tp,h.tg⟩
 .exact vE h.own λb a=>e b (h.own.lt b a).2 (by injection a with a;rw[<-a];exact xM m h.puts)
 .exact h.dirt.of_block (e gd h.dirt.lt h.ne)
 .refine vE h.gone λb a=>e b (h.gone.lt b a).2 ?_;obtain⟨_,⟨j,_⟩|⟨g,r,l,j,_,f,_⟩⟩:=id h.gone
  .rw[j]at a;cases a
  .rw[j]at a;injection a with a;rw[<-a];exact xM f h.puts
theorem Dy (s) (g) (p):gonS s (g++[p])=del (gonS s g) p.toNat:=by rw[gonS,xf];rfl
theorem M9 (t) (g) (p):gonP t (g++[p])=delZ (gonP t g) p:=by rw[gonP,xf];rfl
theorem UL (f) (s t):hasF (hasF f s) t=hasF f t:=by
 unfold hasF
 grind
theorem mD (f):hasF f (f.hs 0)=f:=by
 unfold hasF;cases f with
 | mk b a=>
  congr 1
  grind
def sa (x:Tx) (j:Nat):Tx:={x with fo:=hasF x.fo (gonS (x.fo.hs 0) (x.gone.take j)),put:=gonP x.put (x.gone.take j)}
theorem UO (x):sa x 0=x:=by rw[sa,gonS,gonP,xH,lm,lm,mD]
theorem UP (x) (j) (p) (b:x.gone[j]?=some p):sa x (j+1)={sa x j with fo:=hasF (sa x j).fo (del ((sa x j).fo.hs 0) p.toNat),put:=delZ (sa x j).put p}:=by
 have a:x.gone.take (j+1)=x.gone.take j++[p]:=by rw[Nu,b];rfl
 unfold sa;rw[a,Dy,M9];simp[UL];rfl
