import Derived.Test.YtmanoiagchpelaaGreatDoorKA33
set_option maxHeartbeats 0
set_option linter.all false
set_option maxRecDepth 100000
namespace Go.Proofs.YtmanoiagchpelaaGreatDoor
open Go.Proofs.Tryz Go.RowKit
variable {D:List Int} {F T:Nat->Prop} {a:Addr} {gf gt i:Nat} {s:Fs} {w w0:World} {y:Uw}
def Tx.leaX (x:Tx) (s:Fs) (i:Nat) (name:ByteArray):Tx:=if hasE (x.dirD s i) name=true then x.fillX s.k i (x.nodes.getD i zN) (layD (pw (x.dirD s i) name)) else x
def oS (N:Pn):Pn:={N with l:=N.l-1}
def Tx.dropX (x:Tx) (s:Fs) (n:Nat):Tx:=(x.setX n (oS (x.nodes.getD n zN))).freeX s n (oS (x.nodes.getD n zN))
structure ZG (x:Tx) (s:Fs) (n:Nat):Prop where
 lt:n<32
 l:0<(x.nodes.getD n zN).l/\(x.nodes.getD n zN).l<=200
 P:(x.nodes.getD n zN).P.length<=8
 h:0<=(getZ s.held ((n:Int)+1)).getD 0
 g:x.gone.length<=900
 d:x.dirty.length<890
theorem mv {l:List Pn} (h:i<l.length):l[i]?=some (l.getD i zN):=by rw[zi,zh h];rfl
theorem gQ {x:Tx} (f:FsAt w0 gf s F a) (j:Below w0 w0 w) (h:TxAt w w0 F gt (gf,()) x T) (n) (c:ZG x s n):
 Calls prog 71 #[(gt,()),.int .i64 (n+1)] w (fun e w'=>e=.returned (.tuple #[])/\uc w0 F gt (gf,()) (x.dropX s n) T w w'):=
 S6 f j h (fun i b=>zo (f.fin i b) j.size) n c.lt _ (mv (by rw[h.len];exact c.lt)) c.l c.h c.P c.g c.d _ rfl
theorem Zk {x:Tx} (c:FsAt w0 gf s F a) (d:Below w0 w0 w) (h:TxAt w w0 F gt (gf,()) x T) (f:lS x) (i) (g:DirT x s i (x.nodes.getD i zN) (x.dirD s i)) (name):
 Calls prog 70 #[(gt,()),.int .i64 (i+1),.string name] w (fun e w'=>e=.returned (.tuple #[])/\uc w0 F gt (gf,()) (x.leaX s i name) T w w'):=
 Pf c d h (fun i b=>zo (c.fin i b) d.size) f i _ _ g name
theorem DirS.tx {X:Pn} (h:DirS s i X D) (c:s.k<=256):(tx0 s).nodes.getD i zN=X/\(tx0 s).dirD s i=D/\DirT (tx0 s) s i ((tx0 s).nodes.getD i zN) ((tx0 s).dirD s i):=by
 have e:(tx0 s).nodes.getD i zN=X:=by show s.nodes.getD i zN=X;rw[zi,h.nd];rfl
 have a:(tx0 s).dirD s i=D:=by
  unfold Tx.dirD;rw[e];have:secT (tx0 s) s=secE s:=by funext n;rfl
  rw[this,h.by_]
 refine⟨e,a,?_⟩;rw[e,a];exact⟨h.lt,h.nd,iV h.pts c,fun p b=>⟨(h.pts p b).1,by have:=(h.pts p b).2;show p<=256;omega⟩,h.len,h.sz,by rw[<-a];unfold Tx.dirD;rw[e],h.byte,h.ok⟩
theorem Vt:lS (tx0 s):=⟨by show (256:Int)<=256;omega,by show (256:Int)<900000;omega,ye _,by show (0:Nat)<800;omega,by show (0:Nat)<890;omega⟩
def unlM (s:Fs) (i:Nat) (D:List Int) (name:ByteArray):Int×Fs:=
 let r:=vB D name
 if r.2.2=0 then
  let n:=(r.1-1).toNat
  let N:=s.nodes.getD n zN
  if N.k=2/\0<N.s then (13,s) else (endE s (((tx0 s).leaX s i name).dropX s n),endS s (((tx0 s).leaX s i name).dropX s n))
 else (r.2.2,s)
structure lc (s:Fs) (i n:Nat) (name:ByteArray):Prop where
 drop:ZG ((tx0 s).leaX s i name) s n
 run:rX s (((tx0 s).leaX s i name).dropX s n)
theorem Ue {name:ByteArray} (d:sU D=true) (h:(vB D name).2.2=0):1<=(vB D name).1/\(vB D name).1<=32:=by obtain⟨m,a,c,_⟩:=Ud 7 0 0 h;have b:=((rO _).1 (mP d).2.1).2.1 (rdE D m) (by unfold outD;exact zU.2 ⟨m,(Y0 (by have:=(nB D).1 d;omega) m a),rfl⟩);rw[show (vB D name).1=(rdE D m).2 from c];exact (jF b).2
theorem Mp (h:FsAt w gf s F a) (i) (X) (D) (hd:DirS s i X D) (name) (aq:rW name=true)
 (aa:(vB D name).2.2=0->¬((s.nodes.getD ((vB D name).1-1).toNat zN).k=2/\0<(s.nodes.getD ((vB D name).1-1).toNat zN).s)->lc s i ((vB D name).1-1).toNat name):
 Calls prog 26 #[(gf,()),.int .i64 (i+1),.string name] w
  (fun e w'=>e=.returned (.int .i64 (unlM s i D name).1)/\uB w gf (unlM s i D name).2 F a w'):=by
 have H:=za h;have B:=za (VB h i X D hd name aq);have A:=za aa;have d:Hid ((vB D name).2.2=0->1<=(vB D name).1/\(vB D name).1<=32):=Ue hd.ok;have y:Hid ((vB D name).2.2=0\/(vB D name).2.2=4/\(vB D name).1=0):=Zh (D:=D) (n:=D.length / 16) (name:=name) 7 0 0;have ae:=za (hd.tx h.k1);have O:=za h.len;obtain⟨R,HR⟩:=zD (unlM s i D name);rw[HR.o];obtain⟨U,Y⟩:=R;obtain⟨⟨ri,rl,rr⟩,Hr⟩:∃r,Hid (vB D name=r):=⟨vB D name,za rfl⟩;rw[Hr.o]at B A d y;have G:=HR;unfold unlM at G;rw[Hr.o]at G;clear h hd aa;go_enter func26,ntmps26;go_wp2_with fail
 refine B.o.mono ?_;rintro e Z ⟨rfl,S⟩;have f:=za S;clear S;rcases y.o with ak|⟨ao,a4⟩;case inr=>
  obtain rfl:rr=4:=ao;have c:Hid (U=4/\Y=s):=by have b:=G.o;rw[zb (by decide)]at b;injection b with b z;exact⟨b.symm,z.symm⟩
  go_wp2;go_ret;exact⟨by rw[c.o.1];rfl,by rw[c.o.2];exact uB.same H.o f.o⟩
 obtain rfl:rr=0:=ak;have ad:=(d.o rfl).1;have ab:=(d.o rfl).2;obtain⟨n,hn⟩:∃n:Nat,ri=(n:Int)+1:=⟨(ri-1).toNat,by omega⟩;have p:n<32:=by omega
 have E:(ri-1).toNat=n:=by omega
 have t:Hid (¬((s.nodes.getD n zN).k=2/\0<(s.nodes.getD n zN).s)->lc s i n name):=by have b:=A.o rfl;rw[E]at b;exact b
 obtain⟨N,HN⟩:=zD (s.nodes.getD n zN);have Q:(if N.k=2/\0<N.s then (13,s) else (endE s (((tx0 s).leaX s i name).dropX s n),endS s (((tx0 s).leaX s i name).dropX s n)))=(U,Y):=by have b:=G.o;rw[ze rfl]at b;rw[E,HN.o]at b;exact b
 have P:=za Q;rw[HN.o]at t;have L:s.nodes[n]?=some N:=by rw[<-HN.o];exact mv (by rw[O.o];exact p)
 obtain⟨gn,on,cn,V,yn,W,K,ac,e0,e1,e2,e3,e4,e5,e6,e7,_⟩:=oX (H.o.below f.o) n p N L;have i1:IntKind.i64.wrap (n+1-1)=n:=by rw[zQ _ (by omega)];omega
 have ap:(n:Int)<32:=by omega
 subst hn;clear Q L E ad ab d y A G B;have x:Hid (Below w w (Z.alloc (.cells #[N.k,N.m,N.u,N.g,N.s,N.l,N.up,(V,yn,W)] 123))):=f.o.alloc f.o.size _;obtain⟨m0,m1,m2,m3,m4,m5,m6,m7⟩:=uT (zT Z (.cells #[N.k,N.m,N.u,N.g,N.s,N.l,N.up,(V,yn,W)] 123));by_cases q:N.k=2/\0<N.s
 .have e0:(N.k==2)=true:=by simp[q.1]
  have e9:=ya q.2;have c:Hid (U=13/\Y=s):=by have b:=P.o;rw[ze q]at b;injection b with b z;exact⟨b.symm,z.symm⟩
  clear q;go_wp2;go_ret;exact⟨by rw[c.o.1];rfl,by rw[c.o.2];exact uB.same H.o x.o⟩
 have M:=za (t.o q);have c:Hid (U=endE s (((tx0 s).leaX s i name).dropX s n)/\Y=endS s (((tx0 s).leaX s i name).dropX s n)):=by have b:=P.o;rw[zb q]at b;injection b with b z;exact⟨b.symm,z.symm⟩
 have v:¬N.k=2\/(N.k=2/\¬0<N.s):=by
  by_cases b:N.k=2
  .exact zu ⟨b,fun z=>q ⟨b,z⟩⟩
  .exact zr b
 have j:=za (H.o.below x.o);have ah:=za (oA j.o);clear q;rcases v with I|⟨I,d1⟩
 case' inl=>
  have e8:(N.k==2)=false:=by simpa using I
  clear I
 case' inr=>
  have e8:(N.k==2)=true:=by simp[I]
  have e9:=zz d1;clear I d1
 all_goals
  go_wp2_with fail
  refine ah.o.mono ?_;rintro e w4 ⟨gt,T,rfl,C,hT⟩;have an:=za C;have HT:Hid (TxAt w4 (Z.alloc (.cells #[N.k,N.m,N.u,N.g,N.s,N.l,N.up,(V,yn,W)] 123)).heap.size F gt (gf,()) (tx0 s) T):=hT;generalize Z.alloc (.cells #[N.k,N.m,N.u,N.g,N.s,N.l,N.up,(V,yn,W)] 123)=w3 at *
  have au:=za (Zk j.o C HT.o Vt i ae.o.2.2 name);clear C hT K ac e0 e1 e2 e3 e4 e5 e6 e7 m0 m1 m2 m3 m4 m5 m6 m7;go_wp2_with fail
  refine au.o.mono ?_;rintro e w5 ⟨rfl,d5⟩;have J:=za (d5.old an.o HT.o);obtain⟨T5,t5,u5,v5,k5⟩:=d5;have ag:=za (gQ j.o J.o t5 n M.o.drop);have af:=za t5;clear t5 u5 v5 k5;go_wp2_with fail
  refine ag.o.mono ?_;rintro e w6 ⟨rfl,d6⟩;have aj:=za (d6.old J.o af.o);obtain⟨T6,t6,u6,v6,k6⟩:=d6;have al:=za (ms j.o aj.o t6 M.o.run);clear t6 u6 v6 k6;go_wp2_with fail
  refine al.o.mono ?_;rintro e w7 ⟨rfl,d7⟩;have ai:=za (d7.after x.o);clear d7;go_wp2;go_ret;exact⟨by rw[c.o.1];rfl,by rw[c.o.2];exact ai.o⟩
theorem fG (h:FsAt w gf s F a) (i) (X) (D) (K:DirS s i X D) (name) (J:rW name=true) (k m u g) (N:k=1\/k=2) (O:0<=m/\m<=511) (L:0<=u/\u<=255) (M:0<=g/\g<=255)
 (I:qf D name=0->∀n,pb s=some n->pN s i n (newP k m u g i) [] name):
 Calls prog 49 #[(gf,()),.int .i64 (i+1),.string name,.int .i64 k,.int .i64 m,.int .i64 u,.int .i64 g] w
  (fun e w'=>e=.returned (.tuple #[.int .i64 (addM s i D name k m u g []).1.1,.int .i64 (addM s i D name k m u g []).1.2])/\uB w gf (addM s i D name k m u g []).2 F a w'):=by
 have b:=za (Y2 h i X D K name J k m u g (.slice none 0 0) [] ⟨⟨rfl,zr ⟨rfl,_,_,rfl⟩⟩,fun q n c r=>by injection r with G z H;omega⟩ (by simp) (fun q f=>by cases f) I);obtain⟨R,l⟩:=zD (addM s i D name k m u g []);rw[l.o]at b ⊢;have p:=za (kV u g L M w);obtain⟨A,B⟩:=O;have y:decide (m<0)=false:=zz (by omega);have t:decide (511<m)=false:=zz (by omega);have x:¬m<0:=by omega
 have E:¬511<m:=by omega
 clear h K L M I;go_enter func49,ntmps49;rcases N with rfl|rfl;all_goals
  go_wp2_with fail
  refine p.o.mono ?_;rintro e v ⟨rfl,rfl⟩;go_wp2_with fail
  refine b.o.mono ?_;rintro e C ⟨rfl,d⟩;have j:=za d;clear d;go_wp2;go_ret2;exact⟨rfl,j.o⟩
def sI (N:Pn):Pn:={N with l:=N.l+1}
def lnkM (s:Fs) (i n:Nat) (D:List Int) (name:ByteArray):Int×Fs:=
 let N:=s.nodes.getD n zN
 if N.k=0\/N.l=0 then (4,s) else if N.k=2 then (12,s) else if qf D name≠0 then (qf D name,s) else if N.l=200 then (6,s) else
 let x:=(tx0 s).setX n (sI N)
 if tc (x.dirD s i) (name,n+1)=0 then (endE s (x.entX s i (name,n+1)),endS s (x.entX s i (name,n+1))) else (tc (x.dirD s i) (name,n+1),s)
structure iA (s:Fs) (i n:Nat) (name:ByteArray):Prop where
 dir:DirT ((tx0 s).setX n (sI (s.nodes.getD n zN))) s i (((tx0 s).setX n (sI (s.nodes.getD n zN))).nodes.getD i zN) (((tx0 s).setX n (sI (s.nodes.getD n zN))).dirD s i)
 run:tc (((tx0 s).setX n (sI (s.nodes.getD n zN))).dirD s i) (name,(n:Int)+1)=0->rX s (((tx0 s).setX n (sI (s.nodes.getD n zN))).entX s i (name,(n:Int)+1))
theorem Pz {n:Nat} {N:Pn}:lS ((tx0 s).setX n N):=⟨by show (256:Int)<=256;omega,by show (256:Int)<900000;omega,ye _,by show (0:Nat)<800;omega,by have:=oy ((n:Int)+1) (Value.bool true) ([]:List (Int×Value));show (putZ [] _ _).length<890;simp at this;omega⟩
theorem Qk (h:FsAt w gf s F a) (i) (X) (D) (hd:DirS s i X D) (name) (ah:rW name=true) (n) (aa:n<32) (hl:0<=(s.nodes.getD n zN).l/\(s.nodes.getD n zN).l<=200)
 (af:(s.nodes.getD n zN).k≠0->(s.nodes.getD n zN).k≠2->(s.nodes.getD n zN).l≠0->(s.nodes.getD n zN).l≠200->qf D name=0->iA s i n name):
 Calls prog 51 #[(gf,()),.int .i64 (i+1),.string name,.int .i64 (n+1)] w
  (fun e w'=>e=.returned (.int .i64 (lnkM s i n D name).1)/\uB w gf (lnkM s i n D name).2 F a w'):=by
 have H:=za h;have a5:=za h.len;have a0:=za (fun W=>Zd name W);rw[ah]at a0;have ai:Hid (∀W,Below w w W->Calls prog 103 #[(gf,()),.int .i64 (i+1),.string name] W (fun e w'=>e=.returned (.int .i64 (qf D name))/\Below W W w')):=fun W hW=>WW (h.below hW) i X D hd name ah;have a9:Hid (qf D name=0\/qf D name=5):=by show _\/_;unfold qf;split<;>simp
 obtain⟨N,HN⟩:=zD (s.nodes.getD n zN);have O:s.nodes[n]?=some N:=by rw[<-HN.o];exact mv (by rw[a5.o];exact aa)
 have bd:=za O;rw[HN.o]at hl af;have a4:=za af;have aE:Hid (∀W,Below w w W->Calls prog 73 #[(gf,()),.int .i64 (n+1)] W (fun e w'=>e=.returned (.bool (decide (N.k≠0)))/\W=w')):=fun W hW=>Zf (h.below hW) n aa N O;have ad:Hid (∀W,Below w w W->∃gn on cn,W.cell? (gf,195)=some (.slice (some ⟨gn,on,none⟩) 32 cn)/\gn<W.heap.size/\W.cell? ⟨gn,on+n*8,none⟩=some (.int .i64 N.k)/\W.cell? ⟨gn,on+n*8+5,none⟩=some (.int .i64 N.l)):=fun W hW=>by obtain⟨gn,on,cn,yq,yn,yc,f,E,e0,e1,e2,e3,e4,e5,_⟩:=oX (h.below hW) n aa N O;exact⟨gn,on,cn,f,E,e0,e5⟩
 obtain⟨R,HR⟩:=zD (lnkM s i n D name);rw[HR.o];obtain⟨re,rs⟩:=R;obtain⟨t,A⟩:=zD N.k;obtain⟨j,B⟩:=zD N.l;obtain⟨pe,ae⟩:=zD (qf D name);have HM:Hid ((if t=0\/j=0 then (4,s) else if t=2 then (12,s) else if pe≠0 then (pe,s) else if j=200 then (6,s) else if tc (((tx0 s).setX n (sI N)).dirD s i) (name,n+1)=0 then (endE s (((tx0 s).setX n (sI N)).entX s i (name,n+1)),endS s (((tx0 s).setX n (sI N)).entX s i (name,n+1))) else (tc (((tx0 s).setX n (sI N)).dirD s i) (name,n+1),s))=(re,rs)):=by show _=_;rw[<-HR.o,<-A.o,<-B.o,<-ae.o,<-HN.o];rfl
 rw[A.o,B.o,ae.o]at a4;rw[A.o]at aE;rw[A.o,B.o]at ad;rw[ae.o]at ai a9;rw[B.o]at hl;have i1:IntKind.i64.wrap (n+1-1)=n:=by rw[zQ _ (by omega)];omega
 have bh:(n:Int)<32:=by omega
 have iw:=zW (j+1) (by omega);have bv:=za hl;clear h hd af O hl;have Z:∀(e) (W),Below w w W->(e,s)=(re,rs)->e=re/\uB w gf rs F a W:=fun e W hW he=>by injection he with b h2;exact⟨b,by rw[<-h2];exact uB.same H.o hW⟩
 have d:=za Z;clear Z;obtain⟨gn,on,cn,f,E,e0,e5⟩:=ad.o w zB;go_enter func51,ntmps51;go_wp2_with fail
 refine (a0.o w).mono ?_;rintro e w0 ⟨rfl,rfl⟩;go_wp2_with fail
 refine (aE.o w zB).mono ?_;rintro e w0 ⟨rfl,rfl⟩;by_cases I:t=0
 .subst I;have p:=za (d.o 4 w zB (by have b:=HM.o;rw[ze (zr rfl)]at b;exact b));go_wp2;go_ret;exact⟨by rw[<-p.o.1];rfl,p.o.2⟩
 have ac:decide (t≠0)=true:=ya I;have J:=za I;rw[ac];by_cases M:j=0
 .subst M;have p:=za (d.o 4 w zB (by have b:=HM.o;rw[ze (zu rfl)]at b;exact b));clear I ac;go_wp2;go_ret;exact⟨by rw[<-p.o.1];rfl,p.o.2⟩
 have b9:(j==0)=false:=by simpa using M
 have C:=za M;clear I ac M;go_wp2_with fail
 refine (ai.o w zB).mono ?_;rintro e w1 ⟨rfl,aI⟩;have S:=za aI;clear aI f E e0 e5;obtain⟨gn,on,cn,f,E,e0,e5⟩:=ad.o w1 S.o;have az:∀W:World,((pe=5/\¬pe=0)\/pe=0):=fun _=>a9.o.elim (fun h=>zu h) fun h=>zr ⟨h,by omega⟩;have ax:=az w;clear az;rcases ax with⟨rfl,_⟩|rfl;all_goals
  by_cases z:t=2
  case' pos =>have p:=za (d.o 12 w1 S.o (by have b:=HM.o;rw[zb (fun hc=>hc.elim J.o C.o),ze z]at b;exact b));have b2:(t==2)=true:=(by simp[z]);clear z;go_wp2;go_ret;exact⟨by rw[<-p.o.1];rfl,p.o.2⟩
 all_goals
  have b2:(t==2)=false:=by simpa using z
  have P:=za z;clear z;go_wp2_with fail
  refine (ai.o w1 S.o).mono ?_;rintro e w3 ⟨rfl,a2⟩;have v:=za (zf S.o a2);clear a2 f E e0 e5
 .have p:=za (d.o 5 w3 v.o (by have b:=HM.o;rw[zb (fun hc=>hc.elim J.o C.o),zb P.o,ze (by decide)]at b;exact b));go_wp2;go_ret;exact⟨by rw[<-p.o.1];rfl,p.o.2⟩
 have V:=za (H.o.below v.o);have aX:=za (oA V.o);go_wp2_with fail
 refine aX.o.mono ?_;rintro e w4 ⟨gt,T,rfl,aG,hT⟩;have al:=za aG;have HT:Hid (TxAt w4 w3 F gt (gf,()) (tx0 s) T):=hT;have ag:=mr HT.o n aa N bd.o;rw[A.o,B.o]at ag;have aT:=za ag;clear aG hT ag;go_wp2_with fail
 refine aT.o.mono ?_;rintro e L ⟨q,K,c,rfl,ab,an⟩;have bg:=za ab;have U:=za an;by_cases x:j=200
 .have p:=za (d.o 6 (L.alloc (.cells #[t,N.m,N.u,N.g,N.s,j,N.up,(q,K,c)] 123)) ((zf (zf v.o al.o) U.o).alloc (zf (zf v.o al.o) U.o).size _) (by have b:=HM.o;rw[zb (fun hc=>hc.elim J.o C.o),zb P.o,zb (by decide),ze x]at b;exact b));have a6:(j==200)=true:=by simp[x]
  have s5:=(uT (zT L (.cells #[t,N.m,N.u,N.g,N.s,j,N.up,(q,K,c)] 123))).2.2.2.2.2.1;clear x ab an;go_wp2;go_ret;exact⟨by rw[<-p.o.1];rfl,p.o.2⟩
 have a6:(j==200)=false:=by simpa using x
 have aZ:=za x;have G:=a4.o J.o P.o C.o x trivial;have ap:=G.dir;have aj:=G.run;rw[HN.o]at ap aj;have ba:=za ap;have aQ:=za aj;obtain⟨gb,aw⟩:=zD L.heap.size;have av:Hid ((L.alloc (.cells #[t,N.m,N.u,N.g,N.s,j,N.up,(q,K,c)] 123)).heap[gb]?=some (.cells #[t,N.m,N.u,N.g,N.s,j,N.up,(q,K,c)] 123)):=by rw[<-aw.o];exact zH
 have s5:=(uT av.o).2.2.2.2.2.1;have z5:(L.alloc (.cells #[t,N.m,N.u,N.g,N.s,j,N.up,(q,K,c)] 123)).frozen? (gb,5)=false:=zF av.o;have aV:Hid ((L.alloc (.cells #[t,N.m,N.u,N.g,N.s,.int .i64 (j+1),N.up,(q,K,c)] 123)).heap[L.heap.size]?=some (.cells #[t,N.m,N.u,N.g,N.s,.int .i64 (j+1),N.up,(q,K,c)] 123)):=zH;have y:Hid (Below L L (L.alloc (.cells #[t,N.m,N.u,N.g,N.s,.int .i64 (j+1),N.up,(q,K,c)] 123))):=zB.alloc zL _;obtain⟨m0,m1,m2,m3,m4,m5,m6,m7⟩:=uT aV.o;rw[<-aw.o]at s5 z5;have a1:=za (HT.o.below U.o);have Y:=lP (a1.o.below y.o) n aa (sI N) q K c (bg.o.below y.o) (by show (0:Nat)<900;omega);have e7:(Calls prog 85 #[(gt,()),.int .i64 ((n:Int)+1),.agg #[N.k,N.m,N.u,N.g,N.s,.int .i64 (N.l+1),N.up,(q,K,c)]] _ _):=Y;rw[A.o,B.o]at e7;have aD:=za e7;have bc:=za (a1.o.below y.o);have ay:=za (zf (zf al.o U.o) y.o);clear x ab an G ap aj Y e7;go_wp2_with fail
 refine aD.o.mono ?_;rintro e w6 ⟨rfl,d6⟩;have aJ:uc w3 F gt (gf,()) ((tx0 s).setX n (sI N)) T _ w6:=d6;have Q:=za (aJ.old ay.o bc.o);obtain⟨T6,t6,u6,v6,k6⟩:=aJ;have aH:=za t6;have a8:=za (ZX V.o Q.o t6 (fun r hr=>zo (V.o.fin r hr) Q.o.size) Pz i _ _ ba.o (name,(n:Int)+1));clear t6 u6 v6 k6 d6 m0 m1 m2 m3 m4 m5 m6 m7 s5 z5;obtain⟨qe,Hq⟩:=zD (tc (((tx0 s).setX n (sI N)).dirD s i) (name,(n:Int)+1));rw[Hq.o]at a8;have ao:=HM.o;rw[zb (fun hc=>hc.elim J.o C.o),zb P.o,zb (by decide),zb aZ.o,Hq.o]at ao;have aA:=za ao;clear ao;go_wp2_with fail
 refine a8.o.mono ?_;rintro e w7 ⟨rfl,d7⟩;by_cases hq:qe=0;case neg=>
  rw[zb hq]at d7;have b0:(qe==0)=false:=by simpa using hq
  have b1:(qe != 0)=true:=by simpa using hq
  have ak:=za (d7.old Q.o aH.o);have p:=za (d.o qe w7 (v.o.trans (ak.o.mono v.o.size)) (by have b:=aA.o;rw[zb hq]at b;exact b));clear d7;go_wp2;go_ret;exact⟨by rw[<-p.o.1];rfl,p.o.2⟩
 subst hq;rw[ze rfl]at d7;have ak:=za (d7.old Q.o aH.o);obtain⟨T7,t7,u7,v7,k7⟩:=d7;have bb:=za (ms V.o ak.o t7 (aQ.o Hq.o));clear t7 u7 v7 k7;go_wp2_with fail
 refine bb.o.mono ?_;rintro e w8 ⟨rfl,d8⟩;have aO:=za (d8.after v.o);have aF:Hid (re=endE s (((tx0 s).setX n (sI N)).entX s i (name,n+1))/\rs=endS s (((tx0 s).setX n (sI N)).entX s i (name,n+1))):=by have b:=aA.o;rw[ze (by trivial)]at b;injection b with b h2;exact⟨b.symm,h2.symm⟩
 clear d8;go_wp2;go_ret;exact⟨by rw[aF.o.1];rfl,by rw[aF.o.2];exact aO.o⟩
def rp (old Dt:List Int) (p k:Nat):Nat->List Int
 | 0=>old
 | i+1=>if p<=64*k+i/\64*k+i<p+Dt.length then (rp old Dt p k i).set i (Dt.getD (64*k+i-p) 0) else rp old Dt p k i
theorem UD (old Dt) (p k):∀i,(rp old Dt p k i).length=old.length
 | 0=>rfl
 | i+1=>by
  unfold rp;split
  .rw[xK];exact UD old Dt p k i
  .exact UD old Dt p k i
def wrtU (s:Fs) (x:Tx) (Dt:List Int) (p k0:Nat) (st:Uw):Nat->Uw
 | 0=>st
 | j+1=>wrU s.k (wrtU s x Dt p k0 st j) (k0+j) (rp (rj {x.wow (wrtU s x Dt p k0 st j).ow with put:=(wrtU s x Dt p k0 st j).put} s (wrtU s x Dt p k0 st j).P (k0+j)) Dt p (k0+j) 64)
def WtIn (k:Nat) (y:Uw):Prop:=UwIn y/\∀p∈y.P,p<k\/(getZ y.put p).isSome=true
theorem wrU_wt {k:Nat} (i) (D) (e:k<=256) (h:WtIn k y):WtIn k (wrU k y i D)/\(wrU k y i D).ow.fk<=y.ow.fk+1:=by
 obtain⟨a,b⟩:=Yj i D e h.1;refine⟨⟨a,fun p d=>?_⟩,b⟩;show p<(k:Int)\/(getZ (putZ y.put (ownU y.ow k (y.P.getD i 0)).1 D) p).isSome=true;by_cases c:p=(ownU y.ow k (y.P.getD i 0)).1
 .rw[c,Zx];exact zu rfl
 .rw[mR D c];exact h.2 p ((vv d).resolve_right c)
theorem YB {s:Fs} {x:Tx} {Dt:List Int} {p k0:Nat} {st:Uw} (j:s.k<=256) (h:WtIn s.k st):∀i,WtIn s.k (wrtU s x Dt p k0 st i)/\(wrtU s x Dt p k0 st i).ow.fk<=st.ow.fk+i/\(wrtU s x Dt p k0 st i).P.length=st.P.length/\(wrtU s x Dt p k0 st i).put.length<=st.put.length+i
 | 0=>⟨h,by show st.ow.fk<=_;omega,rfl,zL⟩
 | i+1=>by obtain⟨a,b,c,d⟩:=YB (x:=x) (Dt:=Dt) (p:=p) (k0:=k0) j h i;unfold wrtU;obtain⟨e,f⟩:=wrU_wt (k0+i) (rp (rj {x.wow (wrtU s x Dt p k0 st i).ow with put:=(wrtU s x Dt p k0 st i).put} s (wrtU s x Dt p k0 st i).P (k0+i)) Dt p (k0+i) 64) j a;obtain⟨g,l⟩:=YE s.k (wrtU s x Dt p k0 st i) (k0+i) (rp (rj {x.wow (wrtU s x Dt p k0 st i).ow with put:=(wrtU s x Dt p k0 st i).put} s (wrtU s x Dt p k0 st i).P (k0+i)) Dt p (k0+i) 64);exact⟨e,by omega,g.trans c,by omega⟩
theorem WtIn.pts {x:Tx} (h:WtIn s.k y) (b:y.ow.fk<=1000000):∀p∈y.P,PtR {x.wow y.ow with put:=y.put} s p:=fun p a=>⟨(h.1.1 p a).1,wS (h.1.1 p a).2 b,h.2 p a⟩
theorem I9 {B:Nat} {F1:Nat->Prop} {fp:Value} {x:Tx} (h:TxAt w B F gt fp x T) (d:FsAt w gf s F1 a) (P) (k) (f:∀p∈P,PtR x s p):(rj x s P k).length=64:=by
 unfold rj;split
 .simp
 .next c=>
  by_cases b:k<P.length
  .have e:P.getD k 0=P[k]:=(by rw[zi,zh b];rfl);rw[e];exact Xw h d (f _ (zx b))
  .exact zY (by rw[zi,yj (by omega)];rfl) c
theorem Ts (cur:Array Value) (D) (n i) (x) (a:cur.toList.take n=u8s D) (_hi:i<n):(cur.setIfInBounds i (.int .u8 x)).toList.take n=u8s (D.set i x):=by rw[wV,List.take_set,a];simp[u8s,th]
def wrtY (s:Fs) (X:Pn) (p:Nat) (Dt:List Int):Uw:=wrtU s (tx0 s) Dt p (p / 64) ⟨(tx0 s).ow,[],X.P++List.replicate ((p+Dt.length+63) / 64-X.P.length) 0⟩ ((p+Dt.length-1) / 64+1-p / 64)
def wrtP (s:Fs) (X:Pn) (p:Nat) (Dt:List Int):Pn:={X with P:=(wrtY s X p Dt).P,s:=max X.s ((p+Dt.length:Nat))}
def wrtT (s:Fs) (i:Nat) (X:Pn) (p:Nat) (Dt:List Int):Tx:={((tx0 s).wow (wrtY s X p Dt).ow) with put:=(wrtY s X p Dt).put,nodes:=s.nodes.set i (wrtP s X p Dt),dirty:=putZ [] (i+1) (.bool true)}
def wrtM (s:Fs) (i p:Nat) (Dt:List Int):(Int×Int)×Fs:=
 let X:=s.nodes.getD i zN
 if X.k=0 then ((0,4),s) else if X.k≠1 then ((0,12),s) else if 512<p+Dt.length then ((0,2),s) else if Dt.length=0 then ((0,0),s) else
 (if endE s (wrtT s i X p Dt)=0 then (Dt.length,0) else (0,endE s (wrtT s i X p Dt)),endS s (wrtT s i X p Dt))
structure WA (w3:World) (gb:Nat) (X:Pn) (Pj:List Int) (q:Option Addr) (j c:Nat) (wq:World):Prop where
 row:wq.heap[gb]?=some (.cells #[X.k,X.m,X.u,X.g,X.s,X.l,X.up,(q,j,c)] 123)
 own:wq.ownsRow w3 3 1 (q,j,c) j (ints Pj)
 bel:yQ (fun i=>i=gb) w3 wq
theorem Mm (h:FsAt w gf s F a) (i) (hi:i<32) (X) (hX:s.nodes[i]?=some X) (hk:X.k=1) (hP:ml X.P s.k) (an:X.P.length<=8) (hs:0<=X.s/\X.s<=512)
 (p) (v) (Dt) (hv:sx w v Dt) (aA:0<Dt.length) (aB:p+Dt.length<=512) (hr:rX s (wrtT s i X p Dt)):
 Calls prog 43 #[(gf,()),.int .i64 (i+1),.int .i64 p,v] w
  (fun e w'=>e=.returned (.tuple #[.int .i64 (if endE s (wrtT s i X p Dt)=0 then ((Dt.length:Int),0) else (0,endE s (wrtT s i X p Dt))).1,.int .i64 (if endE s (wrtT s i X p Dt)=0 then ((Dt.length:Int),0) else (0,endE s (wrtT s i X p Dt))).2])/\uB w gf (endS s (wrtT s i X p Dt)) F a w'):=by
 obtain⟨sN,hs⟩:∃sN:Nat,X.s=(sN:Int):=⟨X.s.toNat,by omega⟩;obtain⟨XT,b5⟩:=zD (wrtT s i X p Dt);rw[b5.o]at hr ⊢;obtain⟨y,cr⟩:=zD (wrtY s X p Dt);have hy:=cr.o;unfold wrtY at hy;have H:=za h;have cE:=za h.fin;have aZ:=ZL h i hi X hX;rw[hk,zb (by omega),ze rfl]at aZ;have dR:=za aZ;have db:=za (oA h);obtain⟨L,HL⟩:=zD Dt.length;obtain⟨vp,vc,dG⟩:=l9 hv.1 L HL.o;subst dG;obtain⟨_,⟨h0,_⟩|⟨gv,ov,cv,dl,bd⟩⟩:=id hv.1
 .omega
 injection dl with e1 e2 e3;subst e1 e3;clear e2;have cX:gv<w.heap.size:=zG (bd 0 _ (qg Dt 0 (by omega)));have df:Hid (∀(j) (hj),w.cell? ⟨gv,ov+j,none⟩=some (.int .u8 Dt[j])):=fun j hj=>bd j _ (qg Dt j hj);obtain⟨K,HK⟩:=zD ((p+Dt.length+63) / 64);have dw:Hid (∀W,Calls prog 87 #[.int .i64 (p+L)] W fun e w'=>e=.returned K/\W=w'):=fun W=>by
  have:=VS ((p:Int)+(L:Int)) W (by have:=HL.o;omega) (by have:=HL.o;omega);have e:sg (p+L)=K:=by unfold sg;rw[<-HK.o,<-HL.o];split<;>omega
  rw[e]at this;exact this
 rw[HK.o,HL.o]at hy;rw[HL.o]at aA aB ⊢;have eJ:K<=8:=by rw[<-HK.o,HL.o];omega
 obtain⟨k0,bl⟩:=zD (p / 64);obtain⟨k1,aH⟩:=zD ((p+L-1) / 64);rw[bl.o,aH.o]at hy;have aF:Hid (k0<=k1/\k1<K):=by constructor<;>(have B:=bl.o;have h2:=aH.o;have h3:=HK.o;rw[HL.o]at h3;omega)
 have HY:=za hy;have cW:=za (fun (W:World) (Z:Nat) (T:Nat->Prop) (hT:TxAt W w F Z (gf,()) (tx0 s) T)=>mr hT i hi X hX);have du:=za hP;have aS:Hid (∀(W) (Z) (T),Below w w W->TxAt W w F Z (gf,()) XT T ->
  Calls prog 64 #[(Z,())] W
   (fun e w'=>e=.returned (.int .i64 (endE s XT))/\uB w gf (endS s XT) F a w')):=fun W Z T hW hT=>ms H.o hW hT hr
 obtain⟨ee,ds⟩:=zD (endE s XT);obtain⟨es,da⟩:=zD (endS s XT);rw[ds.o,da.o]at aS ⊢;obtain⟨ra,rb,ar⟩:∃ra rb,Hid ((if ee=0 then ((L:Int),(0:Int)) else (0,ee))=(ra,rb)):=⟨_,_,rfl⟩;rw[ar.o];have p1:decide ((p:Int)<0)=false:=zz (by omega);have p2:¬((p:Int)<0):=by omega
 have p3:decide (512<(L:Int))=false:=zz (by omega);have p4:¬(512<(L:Int)):=by omega
 have p5:=zW (512-L) (by omega);have p6:decide (512-L<(p:Int))=false:=zz (by omega);have p7:¬(512-L<(p:Int)):=by omega
 have p8:((L:Int)==0)=false:=by simp;omega
 have p9:¬L=0:=by omega
 have pE:=zW (p+L) (by omega);have bV:=za hs;clear hk hs h aZ hX hP hv hy hr bd;go_enter qI,rR;go_wp2_with fail
 refine dR.o.mono ?_;rintro e w1 ⟨rfl,rfl⟩;go_wp2_with fail
 refine db.o.mono ?_;rintro e w1 ⟨Z,T,rfl,cL,hT⟩;have af:=za cL;have a7:=za hT;have cz:=za (cW.o w1 Z T hT);clear cL hT;go_wp2_with fail
 refine cz.o.mono ?_;rintro e w2 ⟨q,n,c,rfl,am,cc⟩;have bk:=za cc;have dU:=za am;clear cc am;obtain⟨f,aO⟩:=zD w2.heap.size;have a6:Hid (Below w1 w1 (w2.alloc (.cells #[X.k,X.m,X.u,X.g,X.s,X.l,X.up,(q,n,c)] 123))):=bk.o.alloc bk.o.size _;have aV:Hid ((w2.alloc (.cells #[X.k,X.m,X.u,X.g,X.s,X.l,X.up,(q,n,c)] 123)).heap[f]?=some (.cells #[X.k,X.m,X.u,X.g,X.s,X.l,X.up,(q,n,c)] 123)):=by rw[<-aO.o];exact zH
 have cY:Hid (vT (w2.alloc (.cells #[X.k,X.m,X.u,X.g,X.s,X.l,X.up,(q,n,c)] 123)) (q,n,c) X.P):=wh.below dU.o.now (zB.alloc zL _);have dm:w1.heap.size<=f:=by rw[<-aO.o];exact bk.o.size
 have ad:=za dm;have bQ:Hid (TxAt (w2.alloc (.cells #[X.k,X.m,X.u,X.g,X.s,X.l,X.up,(q,n,c)] 123)) w (fun i=>F i\/w1.heap.size<=i) Z (gf,()) (tx0 s) T):=(a7.o.outer fun i hi hg=>hg.elim id fun h=>zY h (rz hi)).below a6.o;have c7:(w2.alloc (.cells #[X.k,X.m,X.u,X.g,X.s,X.l,X.up,(q,n,c)] 123)).cell? (w2.heap.size,7)=some (.slice q n c):=(uT (zH)).2.2.2.2.2.2.2;go_wp2_with fail
 rw[aO.o];rw[aO.o]at c7;generalize (w2.alloc (.cells #[X.k,X.m,X.u,X.g,X.s,X.l,X.up,(q,n,c)] 123))=w3 at *
 refine (U4 (q,n,c) X.P w3 cY.o (by omega)).mono ?_;rintro e w4 ⟨v4,rfl,aG,a0,_⟩;obtain⟨q4,c4,dK,_⟩:=tV aG;subst dK;obtain⟨m,Hm⟩:=zD X.P.length;rw[Hm.o]at aG an ⊢;have bh:=za (wy a0 aV.o);have eH:=za (bQ.o.below a0);have z7:w4.frozen? (f,7)=false:=zF bh.o;have eA:=(uT bh.o).2.2.2.2.2.2.2;have e6:=za (zf a6.o a0);have aU:=za aG;have bE:=za a0;have ag:Hid (f<w3.heap.size/\¬T f):=⟨xR aV.o,fun R=>by have:=a7.o.fin f R;have:=ad.o;omega⟩;clear aG a0 c7;have bB:Hid (WA w3 f X X.P q4 m c4 (w4.setCell (f,7) (q4,m,c4))):=by
  have ao:yQ (fun i=>i=f) w4 (w4.setCell (f,7) (q4,m,c4)):=yQ.setCell (F:=fun i=>i=f) (p:=⟨f,7,none⟩) rfl _;refine⟨yb _ _ 7 _ _ _ bh.o,tw aU.o fun b M=>ao.block b (aU.o.lt b M).2 (fun R=>?_),?_⟩
  .have B:=(aU.o.lt b M).1;rw[R]at B;have:=ag.o.1;omega
  .exact (yQ.of_below bE.o).step ao
 generalize e7:w4.setCell (f,7) (q4,m,c4)=w5 at *
 go_wp2;go_loopw [55] (fun _ wq=>∃(j:Nat) (N:Option Addr) (O:Nat),m<=j/\j<=max m K/\Hid (WA w3 f X (X.P++List.replicate (j-m) 0) N j O wq)) (fun _ wq=>100-lenV ((wq.cell? (f,7)).getD undef));case atStart=>exact⟨m,q4,c4,zL,by omega,by rw[uM,List.replicate_zero,yX];exact bB⟩
 case round=>
  obtain⟨j,qj,cj,eC,e8,ae⟩:=hrel;have k7:=xA (uT ae.o.row).2.2.2.2.2.2.2;go_wp2_with fail
  refine wQ (by kernel_rfl) (by kernel_rfl) ?_
  repeat (first
   | go_big_quiet_skip
   | (refine qE 87 #[.tmp 58] #[3] rfl rfl (fun _ _=>by kernel_rfl) #[.int .i64 ((p:Int)+(L:Int))] (by kernel_rfl) (.int .i64 (K:Int)) (fun _ _=>qu) (fun w' _=>(dw.o w').mono fun e w2 ⟨he,dE⟩=>⟨he,dE▸zB⟩) ?_;simp only[Act.put,zK,yi,yf])
   | (go_big_quiet_want;go_big_quiet_op;go_big_quiet_on))
  refine ve ?_;intro U c1;have aM:=za (sF c1);have D:Hid (WA w3 f X (X.P++List.replicate (j-m) 0) qj j cj U):=⟨wy aM.o ae.o.row,tB ae.o.own aM.o,ae.o.bel.step (yQ.of_below aM.o)⟩;obtain⟨bX,cC,bS,cm,bo,b4,ce,bW⟩:=uT D.o.row;have d3:=za (uT ae.o.row).2.2.2.2.2.2.2;clear k7 c1 ae aM;have cI:=za (xR D.o.row);by_cases eS:j<K
  .have bO:j<(K:Int):=(by omega);obtain⟨i0,b7,cw,bN,ci⟩:=xy jP;have dW:=za b7;have dJ:=za cw;have dF:=za bN;have dM:=za ci;clear b7 cw bN ci;have bD:(ints (X.P++List.replicate (j-m) 0))++[Value.int .i64 0]=ints (X.P++List.replicate (j+1-m) 0):=(by rw[show j+1-m=(j-m)+1 by omega,qN,<-zP];simp[ints]);have d2:=za bD;have dX:=za (fun o=>tB D.o.own ((x9 U U).alloc zL o));have bz:=za D.o.bel.size;have ct:Hid (∀b,(Value.slice qj j cj).ownBlock=some b->w3.heap.size<=b):=fun b M=>(D.o.own.lt b M).1;have dp:Hid (∀(w6) (o),(U.alloc o).grownBy w6 (Value.slice qj j cj).ownBlock->w6.heap[f]?=some (.cells #[X.k,X.m,X.u,X.g,X.s,X.l,X.up,(qj,j,cj)] 123)/\yQ (fun i=>i=f) w3 w6):=fun w6 o hg=>by
    refine⟨?_,?_⟩
    .rw[hg.block f (by have:=cI.o;simp;omega) (fun R=>by have:=ct.o f R.symm;have:=ag.o.1;omega),uk U o cI.o];exact D.o.row
    .exact (D.o.bel.step (yQ.of_below (zB.alloc zL o))).trans (yQ.grown (F:=fun r=>w3.heap.size<=r) hg (fun r hr=>ct.o r hr)) (fun i hi=>zu hi)
   clear bD;go_wp2_with (at_builtin;refine yI _ rfl _ _ 33 rfl w3.heap.size 3 i0 (.int .i64 0) 1 8 lB dW.o dJ.o dF.o dM.o rfl (by decide) _ _ _ rfl (dX.o _) ⟨U.heap.size,0,none⟩ 1 1 [.int .i64 0] rfl rfl (xE (cs:=#[.int .i64 0]) (t:=3) (fr:=(0,0)) (zT U _)) (by simp[Value.oneCell']) (by unfold maxLen;omega) (by omega) (by have:=bz.o;simp;omega) ?_;intro v5 w6 G ax _;obtain⟨q5,c5,rfl,_⟩:=tV G;have aC:=za (dp.o w6 _ ax);have z6:w6.frozen? (f,7)=false:=zF aC.o.1;have c6:=(uT aC.o.1).2.2.2.2.2.2.2;have br:Hid (w6.ownsRow w3 3 1 (q5,(j+1),c5) (j+1) (ints (X.P++List.replicate (j+1-m) 0))):=(by show _;rw[<-d2.o];exact G);clear G ax)
   have b3:Hid (WA w3 f X (X.P++List.replicate (j+1-m) 0) q5 (j+1) c5 (w6.setCell (f,7) (q5,(j+1),c5))):=(by have ao:yQ (fun i=>i=f) w6 (w6.setCell (f,7) (q5,(j+1),c5)):=yQ.setCell (F:=fun i=>i=f) (p:=⟨f,7,none⟩) rfl _;refine⟨yb _ _ 7 _ _ _ aC.o.1,tw br.o fun b M=>ao.block b (br.o.lt b M).2 (fun R=>?_),aC.o.2.step ao⟩;have B:=(br.o.lt b M).1;rw[R]at B;have:=ag.o.1;omega);clear bX cC bS cm bo b4 ce bW;go_wp2;go_roundw;case rel=>exact⟨j+1,q5,c5,by omega,by omega,b3⟩
   case measure =>rw[(uT b3.o.row).2.2.2.2.2.2.2,d3.o];simp[lenV];omega
  .have bO:¬j<(K:Int):=(by omega);rw[bV.o]at bo;obtain⟨Q,bK⟩:=zD (max sN (p+L));have eL:max (sN:Int) (p+L)=Q:=(by have:=bK.o;omega);have dy:U.frozen? (f,4)=false:=zF D.o.row;go_wp2;obtain⟨n1,ah⟩:=zD (k1+1-k0);have dN:K-m=j-m:=(by omega);obtain⟨C,ac⟩:∃z:Uw,Hid ((⟨(tx0 s).ow,[],X.P++List.replicate (j-m) 0⟩:Uw)=z):=⟨_,za rfl⟩;have aa:C.P=X.P++List.replicate (j-m) 0:=(by rw[<-ac.o]);have dV:Hid (wrtU s (tx0 s) Dt p k0 C n1=y):=(by have B:=HY.o;rw[Hm.o,dN,ah.o,ac.o]at B;exact B);have cJ:Hid (C.P.length=j):=(by show _=_;rw[aa,zm,yN,Hm.o];omega);have dP:Hid (∀r,WtIn s.k (wrtU s (tx0 s) Dt p k0 C r)/\(wrtU s (tx0 s) Dt p k0 C r).ow.fk<=256+r/\(wrtU s (tx0 s) Dt p k0 C r).P.length=j/\(wrtU s (tx0 s) Dt p k0 C r).put.length<=r):=by
    intro r;have dS:WtIn s.k C:=by
     have bP:∀q∈C.P,0<=q/\q<s.k:=fun q hq=>by
      rw[aa]at hq;rcases yo.1 hq with hq|hq
      .exact du.o q hq
      .have:=xV hq;have:=H.o.k0;omega
     have eN:=H.o.k1;have aI:C.ow.fk=256:=(by rw[<-ac.o];rfl);exact⟨⟨fun q hq=>by have:=bP q hq;omega,by omega⟩,fun q hq=>zr (bP q hq).2⟩
    obtain⟨a1,a2,a3,a4⟩:=YB (x:=tx0 s) (Dt:=Dt) (p:=p) (k0:=k0) H.o.k1 dS r;refine⟨a1,?_,a3.trans cJ.o,?_⟩
    .rw[show C.ow.fk=256 by rw[<-ac.o];rfl]at a2;exact a2
    .rw[show C.put=[] by rw[<-ac.o]]at a4;simpa using a4
   have e9:j<=8:=(by omega);have eP:K<=j:=(by omega);have c3:Hid (∃N O,FG w w1 F T Z gf f {(tx0 s).wow (C).ow with put:=(C).put} #[X.k,X.m,X.u,X.g,Q,X.l,X.up,.slice N j O] (.slice N j O) (U.setCell (f,4) (.int .i64 Q))/\vT (U.setCell (f,4) (.int .i64 Q)) (.slice N j O) (C).P):=by
    have cB:yQ (fun i=>i=f) U (U.setCell (f,4) (.int .i64 Q)):=yQ.setCell (F:=fun i=>i=f) (p:=⟨f,4,none⟩) rfl _;have b9:=D.o.bel.step cB;have hx:({(tx0 s).wow C.ow with put:=C.put})=tx0 s:=(by rw[<-ac.o];rfl);rw[hx];refine⟨qj,cj,⟨⟨T,bQ.o.local (zu ad.o) ag.o.2 aV.o (by decide) b9,fun _ hi=>zr hi,fun _ hi=>hi,ag.o.2,fun b M=>?_⟩,yb _ _ 4 _ _ _ D.o.row,(yQ.of_below a6.o).trans b9 fun i hi=>zu (by rw[hi];exact ad.o)⟩,?_⟩
    .have h2:=(D.o.own.lt b M).1;exact⟨zt a6.o.size h2,fun R=>by have:=a7.o.fin b R;have:=a6.o.size;omega⟩
    .have B:vT U (qj,j,cj) C.P:=(by have:=wh.of_owns D.o.own;unfold vT;rw[cJ.o,aa];exact this);exact ZU B fun b M hl=>cB.block b hl (fun R=>by have h2:=(D.o.own.lt b M).1;rw[R]at h2;have:=ag.o.1;omega)
   clear bX cC bS cm bo b4 ce bW dy aa;generalize U.setCell (f,4) (.int .i64 (Q:Int))=w8 at *
   go_loopw [14] (fun kv wq=>∃r:Nat,r<=n1/\kv=.int .i64 ((k0+r:Nat):Int)/\Hid (∃N O,FG w w1 F T Z gf f {(tx0 s).wow (wrtU s (tx0 s) Dt p k0 C r).ow with put:=(wrtU s (tx0 s) Dt p k0 C r).put} #[X.k,X.m,X.u,X.g,Q,X.l,X.up,.slice N j O] (.slice N j O) wq/\vT wq (.slice N j O) (wrtU s (tx0 s) Dt p k0 C r).P)) (fun kv _=>100-(intOf kv).toNat)
   case atStart=>exact⟨0,ye _,zV (Value.int .i64) (by have:=bl.o;omega),c3⟩
   case round=>
    obtain⟨aL,c0⟩:∃x,x=wr:=⟨_,rfl⟩;obtain⟨r,ex,rfl,bH⟩:=hrel;obtain⟨d,S⟩:=zD (k0+r);rw[S.o];have iE:=zW (p+L-1) (by omega);obtain⟨ay,aI,ab,bn⟩:=dP.o r;have eD:r<=8:=(by have h2:=ah.o;have h3:=aF.o;omega);obtain⟨A,bs⟩:=zD (wrtU s (tx0 s) Dt p k0 C r);rw[bs.o]at bH ay aI ab bn;obtain⟨N,O,⟨⟨T',aj,t1,t2,t3,t4⟩,ap,a5⟩,au⟩:=bH.o;by_cases c8:r<n1
    .have bL:d<8:=(by have B:=S.o;have h2:=ah.o;have h3:=aF.o;omega);have aw:d<=(p+(L:Int)-1) / 64:=(by have B:=S.o;have h2:=ah.o;have h3:=aH.o;omega);have bp:=ya aw;have bq:d<A.P.length:=(by have B:=aF.o;have h2:=S.o;have h3:=ah.o;omega);have bR:A.P.getD d 0=A.P[d]:=(by rw[zi,zh bq];rfl);obtain⟨p',o',G⟩:∃p' o',ownU A.ow s.k A.P[d]=(p',o'):=⟨_,_,rfl⟩;have av:∀q∈A.P,PtR {(tx0 s).wow A.ow with put:=A.put} s q:=ay.pts (by omega);have az:=af.o.trans (a5.to_below a7.o.new af.o.size);have aX:=H.o.below az;have bj:=za (Kv aj aX {X with P:=A.P,s:=(Q:Int)} N j O au d bL av (by show A.P.length<=8;omega));have V:=za (I9 aj aX A.P d av);obtain⟨D0,bU⟩:=zD (rj {(tx0 s).wow A.ow with put:=A.put} s A.P d);rw[show (({X with P:=A.P,s:=(Q:Int)}:Pn).P)=A.P from rfl]at bj;have dr:Hid (wrtU s (tx0 s) Dt p k0 C (r+1)=⟨o',putZ A.put p' (rp D0 Dt p d 64),A.P.set d p'⟩):=(by show wrU s.k (wrtU s (tx0 s) Dt p k0 C r) (k0+r) (rp (rj {(tx0 s).wow (wrtU s (tx0 s) Dt p k0 C r).ow with put:=(wrtU s (tx0 s) Dt p k0 C r).put} s (wrtU s (tx0 s) Dt p k0 C r).P (k0+r)) Dt p (k0+r) 64)=_;rw[bs.o,S.o,bU.o];unfold wrU;rw[bR,G]);rw[bU.o]at bj V;obtain⟨r0,r1,r2,r3,r4,r5,r6,r7⟩:=uT ap;have be:=za aj;have aN:=za ap;have bT:=za au;have bg:Hid (yQ T w1 wr/\(∀i,T' i->T i\/w1.heap.size<=i)/\(∀i,T i->T' i)/\¬T' f/\f<wr.heap.size):=⟨a5,t1,t2,t3,xR ap⟩;have E:=za az;have b0:=za G;have bJ:Hid (0<=A.P[d]/\A.P[d]<=1000000):=(by have B:=ay.1.1 _ (zx bq);show 0<=A.P[d]/\A.P[d]<=1000000;omega);have dq:Hid (A.ow.fk<1000000):=(by show A.ow.fk<1000000;omega);have cf:Hid (A.put.length<900):=(by show A.put.length<900;omega);have Y:=za ab;clear aj t1 t2 t3 t4 ap au a5 G bR av az aX ay aI bn ab;go_wp2_with fail
     refine bj.o.mono ?_;rintro e w9 ⟨v9,rfl,g,bM,aD,cp,bf,cx,ba,ca⟩;rw[V.o]at cp ba bf;subst cp;have a9:=za bf;have dj:=za cx;have de:=za ba;have bF:=za ca;rw[<-c0]at bF a9 be aN bT bg E;clear bf cx ba ca r0 r1 r2 r3 r4 r5 r6 r7;go_wp2;go_loopw [86] (fun iv wq=>∃(i:Nat) (cu:Array Value),i<=64/\iv=.int .i64 i/\Hid (wq.heap[g]?=some (.cells cu 5)/\cu.toList.take 64=u8s (rp D0 Dt p d i)/\cu.size=aD.size)/\Hid (Below aL aL wq)) (fun iv _=>64-(intOf iv).toNat);case atStart=>exact⟨0,aD,by omega,rfl,⟨dj.o,de.o,rfl⟩,bF.o⟩
     case round=>
      obtain⟨i,cu,el,rfl,J,I⟩:=hrel;have i1:=zW (64*d) (by omega);have i2:=zW (64*d+i) (by omega);by_cases dk:i<64
      .have ej:(i:Int)<64:=(by omega);have dL:i<cu.size:=(by have B:=zV List.length J.o.2.1;rw[zj,uo,UD,V.o,yv]at B;omega);by_cases bI:p<=64*d+i/\64*d+i<p+L
       .obtain⟨aQ,ch⟩:=bI;have e1:decide (p<=64*d+(i:Int))=true:=ya (by omega);have e2:p<=64*d+(i:Int):=(by omega);have e3:decide (64*d+i<p+(L:Int))=true:=ya (by omega);have e4:64*d+i<p+(L:Int):=(by omega);obtain⟨r',bb⟩:=zD (64*d+i-p);have d7:r'<L:=(by have:=bb.o;omega);have aY:r'<Dt.length:=(by rw[HL.o];exact d7);have i3:IntKind.i64.wrap (64*d+i-p)=r':=(by rw[zQ _ (by omega)];have:=bb.o;omega);have cd:=((E.o.trans (I.o.mono E.o.size)).cell (p:=⟨gv,ov+r',none⟩) cX).trans (df.o r' aY);have zg:wr.frozen? (g,i)=false:=zF J.o.1;have cg:=(zC J.o.1).trans (xL dL);obtain⟨dd,cA⟩:=zD (Dt[r']' aY);rw[cA.o]at cd;have aE:Hid ((wr.setCell (g,i) (.int .u8 dd)).heap[g]?=some (.cells (cu.setIfInBounds i (.int .u8 dd)) 5)/\(cu.setIfInBounds i (.int .u8 dd)).toList.take 64=u8s (rp D0 Dt p d (i+1))/\(cu.setIfInBounds i (.int .u8 dd)).size=aD.size):=by
         refine⟨yb _ _ i _ _ _ J.o.1,?_,by rw[wk];exact J.o.2.2⟩;have e:rp D0 Dt p d (i+1)=(rp D0 Dt p d i).set i dd:=by
          conv=>lhs;unfold rp
          rw[ze ⟨aQ,by rw[HL.o];exact ch⟩,bb.o,zi,zh aY,uK,cA.o]
         rw[e];exact Ts _ _ _ _ _ J.o.2.1 dk
        have dv:Hid (Below aL aL (wr.setCell (g,i) (.int .u8 dd))):=I.o.setCell (p:=⟨g,i,none⟩) a9.o.1 _;go_wp2;go_roundw;case rel=>exact⟨i+1,_,by omega,by go_num,aE,dv⟩
        case measure=>simp[intOf];omega
       .have aE:Hid (wr.heap[g]?=some (.cells cu 5)/\cu.toList.take 64=u8s (rp D0 Dt p d (i+1))/\cu.size=aD.size):=by
         refine⟨J.o.1,?_,J.o.2.2⟩;have e:rp D0 Dt p d (i+1)=rp D0 Dt p d i:=by
          conv=>lhs;unfold rp
          rw[zb (by rw[HL.o];exact bI)]
         rw[e];exact J.o.2.1
        by_cases aQ:p<=64*d+i
        .have e1:decide (p<=64*d+(i:Int))=true:=ya (by omega);have e2:p<=64*d+(i:Int):=(by omega);have e3:decide (64*d+i<p+(L:Int))=false:=zz (by omega);have e4:¬64*d+i<p+(L:Int):=(by omega);go_wp2;go_roundw;case rel=>exact⟨i+1,_,by omega,by go_num,aE,I⟩
         case measure=>simp[intOf];omega
        .have e1:decide (p<=64*d+(i:Int))=false:=zz (by omega);have e2:¬p<=64*d+(i:Int):=(by omega);go_wp2;go_roundw;case rel=>exact⟨i+1,_,by omega,by go_num,aE,I⟩
         case measure=>simp[intOf];omega
      .obtain rfl:i=64:=(by omega);have aR:sJ wr w (.slice (some ⟨g,0,none⟩) 64 bM) (rp D0 Dt p d 64):=⟨g,bM,cu,rfl,by rw[UD,V.o],a9.o.2,zt E.o.size a9.o.1,J.o.1,J.o.2.1⟩;have bA:=E.o.trans (I.o.mono E.o.size);have cF:=be.o.below I.o;have cl:=xR aN.o;have cl:=xR aN.o;have cT:=za (Ku H.o bA cF f {X with P:=A.P,s:=(Q:Int)} N j O (wy I.o aN.o) (wh.below bT.o I.o) ⟨zu ad.o,bg.o.2.2.2.1,zt af.o.size ad.o⟩ d bq (by show A.P.length<=8;have:=Y.o;omega) dq.o bJ.o p' o' b0.o _ (rp D0 Dt p d 64) aR (fun b M R=>by injection M with M;have bG:g=b:=M;have:=be.o.fin b R;have:=a9.o.1;omega) cf.o);clear aR bA cF i1 i2;go_wp2_with fail
       refine cT.o.mono ?_;rintro e aW ⟨rfl,T2,g2,c2,bC,u1,u2,u3,u4,⟨u5,u6,u7⟩,d0,cy,u9⟩;have dt:Hid (∃N O,FG w w1 F T Z gf f {(tx0 s).wow (wrtU s (tx0 s) Dt p k0 C (r+1)).ow with put:=(wrtU s (tx0 s) Dt p k0 C (r+1)).put} #[X.k,X.m,X.u,X.g,Q,X.l,X.up,.slice N j O] (.slice N j O) aW/\vT aW (.slice N j O) (wrtU s (tx0 s) Dt p k0 C (r+1)).P):=by
        rw[dr.o];obtain⟨v1,v2,v3,v4,v5⟩:=bg.o;have bY:=zt v1.size I.o.size;refine⟨some ⟨g2,0,none⟩,c2,⟨⟨T2,bC,fun r hr=>?_,fun r hr=>u2 r (v3 r hr),fun R=>?_,fun b M=>?_⟩,?_,?_⟩,?_⟩
        .rcases u1 r hr with B|B
         .exact v2 r B
         .exact zu (zt bY B)
        .rcases u1 f R with B|B
         .exact v4 B
         .exact zY v5 (xQ (zt I.o.size B))
        .injection M with M;have bG:g2=b:=M;rw[<-bG];exact⟨zt bY u5,u6⟩
        .have:=u4;rw[show A.P.length=j from Y.o]at this;exact this
        .refine (v1.step (yQ.of_below I.o)).trans u3 fun r hr=>?_;rcases hr with hr|hr
         .exact v2 r hr
         .exact zu (by rw[hr];exact ad.o)
        .have b8:(A.P.set d p').length=j:=(by rw[xK,Y.o]);refine⟨by simp[ints,Y.o],zu ⟨g2,0,c2,by rw[b8],fun r u hr=>?_⟩⟩;rw[yO,zC cy,<-zO];have c8:r<A.P.length:=(by have:=(zJ.1 hr).1;simpa[ints]using this);have h3:(d0.toList.take A.P.length)[r]?=some u:=by rw[u9];exact hr
         rwa [zI,ze c8]at h3
       clear bC u1 u2 u3 u4 u5 u6 u7 cy u9;go_wp2;go_roundw;case rel=>exact⟨r+1,by omega,zV (Value.int .i64) (by have:=S.o;omega),dt⟩
       case measure=>simp[intOf];omega
    .obtain rfl:r=n1:=(by omega);obtain rfl:A=y:=(by rw[<-bs.o];exact dV.o);have aw:¬d<=(p+(L:Int)-1) / 64:=(by have B:=S.o;have h2:=ah.o;have h3:=aH.o;have h4:=aF.o;omega);have bp:=zz aw;have am:ju (fun r=>F r\/T' r) {X with P:=A.P,s:=Q} wr N j O:=ZI au fun b M _ hG=>by
      obtain⟨b1,b2⟩:=t4 b M;rcases hG with hG|hG
      .have B:=cE.o b hG;have:=af.o.size;omega
      .exact b2 hG
     have bm:=aj.outer fun r _ hr=>zr hr;have aP:=lP bm i hi {X with P:=A.P,s:=(Q:Int)} N j O am (by show (0:Nat)<900;omega);have d1:Hid (Calls prog 85 #[(Z,()),.int .i64 (i+1),.agg #[X.k,X.m,X.u,X.g,Q,X.l,X.up,(N,j,O)]] wr
      (fun e w'=>e=.returned (.tuple #[])/\uc w F Z (gf,()) XT T' wr w')):=by
      have e:XT={({(tx0 s).wow A.ow with put:=A.put}) with nodes:=({(tx0 s).wow A.ow with put:=A.put}).nodes.set i {X with P:=A.P,s:=Q},dirty:=putZ ({(tx0 s).wow A.ow with put:=A.put}).dirty (i+1) (.bool true)}:=(by rw[<-b5.o];unfold wrtT wrtP;rw[cr.o,bV.o,HL.o,show max (sN:Int) ((p+L:Nat):Int)=(Q:Int) by have:=bK.o;omega];rfl);rw[e];exact aP
     obtain⟨r0,r1,r2,r3,r4,r5,r6,r7⟩:=uT ap;have dI:=za bm;have E:=za (af.o.trans (a5.to_below a7.o.new af.o.size));clear aj t1 t2 t3 t4 au a5 am bm aP ay aI bn ab;go_wp2_with fail
     refine d1.o.mono ?_;rintro e w9 ⟨rfl,d9⟩;have d4:=za (d9.old E.o dI.o);obtain⟨T9,t9,_⟩:=d9;have d5:=za (aS.o w9 Z T9 d4.o t9);clear t9 r0 r1 r2 r3 r4 r5 r6 r7;go_wp2_with fail
     refine d5.o.mono ?_;rintro e aW ⟨rfl,bZ⟩;have cH:=za bZ;clear bZ;by_cases he:ee=0
     .subst he;have B:=ar.o;rw[ze rfl]at B;injection B with B h2;subst B h2;go_wp2;go_ret2;exact⟨rfl,cH.o⟩
     .have eW:(ee==0)=false:=(by simpa using he);have B:=ar.o;rw[zb he]at B;injection B with B h2;subst B h2;go_wp2;go_ret2;exact⟨rfl,cH.o⟩
theorem Uu (v) (w):Calls prog 73 #[v,()] w (fun e w'=>e=.returned (.bool false)/\w=w'):=by
 go_enter func73,ntmps73
 go_wp2;go_ret;simp
theorem XX (v) (w):Calls prog 80 #[v,()] w (fun e w'=>e=.returned (4:Int)/\w=w'):=by
 have a:=za (Uu v w);go_enter lI,nP;go_wp2_with fail
 refine a.o.mono ?_;rintro e b ⟨rfl,rfl⟩;go_wp2;go_ret;simp
theorem Jb (w) (n) (p:Nat) (v) (e) (g:e=4\/e=12) (f:Calls prog 80 #[(gf,()),.int .i64 n] w (fun y w'=>y=.returned (.int .i64 e)/\w=w')):
 Calls prog 43 #[(gf,()),.int .i64 n,p,v] w (fun y w'=>y=.returned (.tuple #[(),.int .i64 e])/\w=w'):=by
 have a:=za f;have c:decide ((p:Int)<0)=false:=zz (by omega);have d:¬((p:Int)<0):=by omega
 clear f;rcases g with rfl|rfl;all_goals
  go_enter qI,rR
  go_wp2_with fail
  refine a.o.mono ?_;rintro e b ⟨rfl,rfl⟩;go_wp2;go_ret2;exact⟨rfl,rfl⟩
theorem Lj (w) (n) (p:Nat) (vp) (vc) (j:p<=512) (i:Calls prog 80 #[(gf,()),.int .i64 n] w (fun y w'=>y=.returned ()/\w=w')):
 Calls prog 43 #[(gf,()),.int .i64 n,p,.slice vp 0 vc] w (fun y w'=>y=.returned (.tuple #[(),()])/\w=w'):=by
 have a:=za i;have c:decide ((p:Int)<0)=false:=zz (by omega);have d:¬((p:Int)<0):=by omega
 have f:decide (512<(p:Int))=false:=zz (by omega);have h:¬(512<(p:Int)):=by omega
 have g:¬(512<p):=by omega
 clear i;go_enter qI,rR;go_wp2_with fail
 refine a.o.mono ?_;rintro e b ⟨rfl,rfl⟩;go_wp2;go_ret2;exact⟨rfl,rfl⟩
theorem IM (w) (n) (p) (vp) (L r:Nat) (t:(L:Int)<1000000000) (q:L=0\/512<p+L) (u:(p:Int)<1000000000) (s:Calls prog 80 #[(gf,()),.int .i64 n] w (fun y w'=>y=.returned ()/\w=w')):
 Calls prog 43 #[(gf,()),.int .i64 n,.int .i64 p,.slice vp L r] w (fun y w'=>y=.returned (.tuple #[(),.int .i64 (if 512<p+L then 2 else 0)])/\w=w'):=by
 have b:=za s;have h:decide ((p:Int)<0)=false:=zz (by omega);have j:¬((p:Int)<0):=by omega
 have g:=zW (512-L) (by omega);clear s;by_cases k:512<L
 .have c:decide (512<(L:Int))=true:=ya (by omega);have d:(512<(L:Int)):=by omega
  rw[ze (by omega)];clear q;go_enter qI,rR;go_wp2_with fail
  refine b.o.mono ?_;rintro e i ⟨rfl,rfl⟩;go_wp2;go_ret2;exact⟨rfl,rfl⟩
 .have c:decide (512<(L:Int))=false:=zz (by omega);have d:¬(512<(L:Int)):=by omega
  by_cases f:512<p+L
  .have l:decide (512-L<(p:Int))=true:=ya (by omega);have m:(512-L<(p:Int)):=(by omega);rw[ze f];clear q;go_enter qI,rR;go_wp2_with fail
   refine b.o.mono ?_;rintro e i ⟨rfl,rfl⟩;go_wp2;go_ret2;exact⟨rfl,rfl⟩
  .have a:L=0:=(by omega);rw[zb f];clear h j c d g q k;subst a;exact Lj w n p vp r (by omega) b.o
structure kK (s:Fs) (i p:Nat) (Dt:List Int):Prop where
 pts:ml (s.nodes.getD i zN).P s.k
 len:(s.nodes.getD i zN).P.length<=8
 sz:0<=(s.nodes.getD i zN).s/\(s.nodes.getD i zN).s<=512
 run:rX s (wrtT s i (s.nodes.getD i zN) p Dt)
theorem WX (h:FsAt w gf s F a) (i) (A:i<32) (p) (C:p<1000000000) (v) (Dt) (B:sx w v Dt) (D:Dt.length<1000000000)
 (z:(s.nodes.getD i zN).k=1->p+Dt.length<=512->0<Dt.length->kK s i p Dt):
 Calls prog 43 #[(gf,()),.int .i64 (i+1),.int .i64 p,v] w
  (fun e w'=>e=.returned (.tuple #[.int .i64 (wrtM s i p Dt).1.1,.int .i64 (wrtM s i p Dt).1.2])/\uB w gf (wrtM s i p Dt).2 F a w'):=by
 obtain⟨N,m⟩:=zD (s.nodes.getD i zN);have g:s.nodes[i]?=some N:=by rw[<-m.o];exact mv (by rw[h.len];exact A)
 have d:=ZL h i A N g;unfold wrtM;rw[m.o]at z ⊢;by_cases u:N.k=0
 .rw[ze u]at d ⊢;exact (Jb w _ p v 4 (zr rfl) d).mono fun e w' ⟨b,c⟩=>⟨b,c▸uB.same h zB⟩
 .rw[zb u]at d ⊢;by_cases b:N.k=1
  .rw[ze b]at d;rw[zb (fun y=>y b)];by_cases c:512<p+Dt.length
   .rw[ze c];obtain⟨l,j,f⟩:=l9 B.1 Dt.length rfl;subst f;have:=IM w _ p l Dt.length j (by omega) (zu c) (by omega) d;rw[ze c]at this;exact this.mono fun e w' ⟨b,c⟩=>⟨b,c▸uB.same h zB⟩
   .rw[zb c];by_cases n:Dt.length=0
    .rw[ze n];obtain⟨l,j,f⟩:=l9 B.1 Dt.length rfl;subst f;have:=IM w _ p l Dt.length j (by omega) (zr n) (by omega) d;rw[zb c]at this;exact this.mono fun e w' ⟨b,c⟩=>⟨b,c▸uB.same h zB⟩
    .rw[zb n];obtain⟨x,q,r,t⟩:=z b (by omega) (by omega);rw[m.o]at x q r t;exact Mm h i A N g b x q r p v Dt B (by omega) (by omega) t
  .rw[zb b]at d;rw[ze b];exact (Jb w _ p v 12 (zu rfl) d).mono fun e w' ⟨b,c⟩=>⟨b,c▸uB.same h zB⟩
theorem OJ (w) (p:Nat) (v):
 Calls prog 43 #[(gf,()),(),p,v] w (fun y w'=>y=.returned (.tuple #[(),(4:Int)])/\w=w'):=Jb w 0 p v 4 (zr rfl) (XX _ w)
