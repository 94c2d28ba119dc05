import Derived.Test.YtakfhadmokoikaaGreatDoorKA39
set_option maxHeartbeats 0
set_option linter.all false
set_option maxRecDepth 100000
namespace Go.Proofs.YtakfhadmokoikaaGreatDoor
open Go.Proofs.Tryz Go.RowKit
variable {D:List Int} {F T:Nat->Prop} {a:Addr} {gf gt i:Nat} {s:Fs} {w w0:World} {y:Uw}
def Tx.leaX (x:Tx) (s:Fs) (i:Nat) (name:ByteArray):Tx:=if hasE (x.dirD s i) name=true then x.fillX s.k i (x.nodes.getD i zN) (layD (pg (x.dirD s i) name)) else x
def oO (N:Pn):Pn:={N with l:=N.l-1}
def Tx.dropX (x:Tx) (s:Fs) (n:Nat):Tx:=(x.setX n (oO (x.nodes.getD n zN))).freeX s n (oO (x.nodes.getD n zN))
structure fQ (x:Tx) (s:Fs) (n:Nat):Prop where
 lt:n<32
 l:0<(x.nodes.getD n zN).l/\(x.nodes.getD n zN).l<=200
 P:(x.nodes.getD n zN).P.length<=8
 h:0<=(getZ s.held ((n:Int)+1)).getD 0
 g:x.gone.length<=900
 d:x.dirty.length<890
theorem mu {l:List Pn} (h:i<l.length):l[i]?=some (l.getD i zN):=by rw[zh,zf h];rfl
theorem hR {x:Tx} (f:FsAt w0 gf s F a) (j:Below w0 w0 w) (h:TxAt w w0 F gt (gf,()) x T) (n:Nat) (c:fQ x s n):
 Calls prog 112 #[(gt,()),.int .i64 ((n:Int)+1)] w (fun e w'=>e=.returned (.tuple #[])/\vS w0 F gt (gf,()) (x.dropX s n) T w w'):=
 Sf f j h (fun i b=>zm (f.fin i b) j.size) n c.lt _ (mu (by rw[h.len];exact c.lt)) c.l c.h c.P c.g c.d _ rfl
theorem hH {x:Tx} (c:FsAt w0 gf s F a) (d:Below w0 w0 w) (h:TxAt w w0 F gt (gf,()) x T) (f:lK x) (i:Nat) (g:DirT x s i (x.nodes.getD i zN) (x.dirD s i)) (name:ByteArray):
 Calls prog 111 #[(gt,()),.int .i64 ((i:Int)+1),.string name] w (fun e w'=>e=.returned (.tuple #[])/\vS w0 F gt (gf,()) (x.leaX s i name) T w w'):=
 QA c d h (fun i b=>zm (c.fin i b) d.size) f i _ _ g name
theorem DirS.tx {X:Pn} (h:DirS s i X D) (c:s.k<=256):(tx0 s).nodes.getD i zN=X/\(tx0 s).dirD s i=D/\DirT (tx0 s) s i ((tx0 s).nodes.getD i zN) ((tx0 s).dirD s i):=by
 have e:(tx0 s).nodes.getD i zN=X:=by show s.nodes.getD i zN=X;rw[zh,h.nd];rfl
 have a:(tx0 s).dirD s i=D:=by
  unfold Tx.dirD;rw[e];have:secT (tx0 s) s=secE s:=by funext n;rfl
  rw[this,h.by_]
 refine⟨e,a,?_⟩;rw[e,a];exact⟨h.lt,h.nd,iD h.pts c,fun p b=>⟨(h.pts p b).1,by have:=(h.pts p b).2;show p<=256;omega⟩,h.len,h.sz,by rw[<-a];unfold Tx.dirD;rw[e],h.byte,h.ok⟩
theorem Wx:lK (tx0 s):=⟨by show (256:Int)<=256;omega,by show (256:Int)<900000;omega,ye _,by show (0:Nat)<800;omega,by show (0:Nat)<890;omega⟩
def unlM (s:Fs) (i:Nat) (D:List Int) (name:ByteArray):Int×Fs:=
 let r:=vz D name
 if r.2.2=0 then
  let n:=(r.1-1).toNat
  let N:=s.nodes.getD n zN
  if N.k=2/\0<N.s then (13,s) else (endE s (((tx0 s).leaX s i name).dropX s n),endS s (((tx0 s).leaX s i name).dropX s n))
 else (r.2.2,s)
structure mW (s:Fs) (i n:Nat) (name:ByteArray):Prop where
 drop:fQ ((tx0 s).leaX s i name) s n
 run:rN s (((tx0 s).leaX s i name).dropX s n)
theorem Vu {name:ByteArray} (d:sI D=true) (h:(vz D name).2.2=0):1<=(vz D name).1/\(vz D name).1<=32:=by obtain⟨m,a,c,_⟩:=Vt 7 0 0 h;have b:=((rZ _).1 (lr d).2.1).2.1 (rdE D m) (by unfold outD;exact zV.2 ⟨m,(Yl (by have:=(ny D).1 d;omega) m a),rfl⟩);rw[show (vz D name).1=(rdE D m).2 from c];exact (jo b).2
theorem NK (h:FsAt w gf s F a) (i:Nat) (X:Pn) (D:List Int) (hd:DirS s i X D) (name:ByteArray) (an:ru name=true)
 (aa:(vz D name).2.2=0->¬((s.nodes.getD ((vz D name).1-1).toNat zN).k=2/\0<(s.nodes.getD ((vz D name).1-1).toNat zN).s)->mW s i ((vz D name).1-1).toNat name):
 Calls prog 62 #[(gf,()),.int .i64 ((i:Int)+1),.string name] w
  (fun e w'=>e=.returned (.int .i64 (unlM s i D name).1)/\uk w gf (unlM s i D name).2 F a w'):=by
 have H:=Lib.hid h;have B:=Lib.hid (WG h i X D hd name an);have A:=Lib.hid aa;have d:Hid ((vz D name).2.2=0->1<=(vz D name).1/\(vz D name).1<=32):=Vu hd.ok;have y:Hid ((vz D name).2.2=0\/(vz D name).2.2=4/\(vz D name).1=0):=gZ (D:=D) (n:=D.length / 16) (name:=name) 7 0 0;have af:=Lib.hid (hd.tx h.k1);have O:Hid (s.nodes.length=32):=h.len;obtain⟨R,HR⟩:=zD (unlM s i D name);rw[HR.o];obtain⟨V,Z⟩:=R;obtain⟨⟨S,rl,rr⟩,Hr⟩:∃r,Hid (vz D name=r):=⟨vz D name,Lib.hid rfl⟩;rw[Hr.o]at B A d y;have G:=HR;unfold unlM at G;rw[Hr.o]at G;clear h hd aa;go_enter func62,ntmps62;go_wp2_with fail
 refine B.o.mono ?_;rintro e w1 ⟨rfl,U⟩;have f:=Lib.hid U;clear U;rcases y.o with al|⟨ap,a4⟩;case inr=>
  obtain rfl:rr=4:=ap;have c:Hid (V=4/\Z=s):=by have b:=G.o;rw[zb (by decide)]at b;injection b with b z;exact⟨b.symm,z.symm⟩
  go_wp2;go_ret;exact⟨by rw[c.o.1];rfl,by rw[c.o.2];exact uk.same H.o f.o⟩
 obtain rfl:rr=0:=al;have ae:1<=S:=(d.o rfl).1;have ac:S<=32:=(d.o rfl).2;obtain⟨n,hn⟩:∃n:Nat,S=(n:Int)+1:=⟨(S-1).toNat,by omega⟩;have p:n<32:=by omega
 have E:(S-1).toNat=n:=by omega
 have t:Hid (¬((s.nodes.getD n zN).k=2/\0<(s.nodes.getD n zN).s)->mW s i n name):=by have b:=A.o rfl;rw[E]at b;exact b
 obtain⟨N,HN⟩:=zD (s.nodes.getD n zN);have Q:(if N.k=2/\0<N.s then (13,s) else (endE s (((tx0 s).leaX s i name).dropX s n),endS s (((tx0 s).leaX s i name).dropX s n)))=(V,Z):=by have b:=G.o;rw[ze rfl]at b;rw[E,HN.o]at b;exact b
 have P:=Lib.hid Q;rw[HN.o]at t;have L:s.nodes[n]?=some N:=by rw[<-HN.o];exact mu (by rw[O.o];exact p)
 obtain⟨gn,on,cn,W,yn,Y,K,ad,e0,e1,e2,e3,e4,e5,e6,e7,_⟩:=oU (H.o.below f.o) n p N L;have i1:IntKind.i64.wrap ((n:Int)+1-1)=(n:Int):=by rw[zQ _ (by omega)];omega
 have aq:(n:Int)<32:=by omega
 subst hn;clear Q L E ae ac d y A G B;have x:Hid (Below w w (w1.alloc (.cells #[N.k,N.m,N.u,N.g,N.s,N.l,N.up,(W,yn,Y)] 59))):=f.o.alloc f.o.size _;obtain⟨m0,m1,m2,m3,m4,m5,m6,m7⟩:=uI (zT w1 (.cells #[N.k,N.m,N.u,N.g,N.s,N.l,N.up,(W,yn,Y)] 59));by_cases q:N.k=2/\0<N.s
 .have e0:(N.k==2)=true:=by simp[q.1]
  have e9:decide (0<N.s)=true:=yf q.2;have c:Hid (V=13/\Z=s):=by have b:=P.o;rw[ze q]at b;injection b with b z;exact⟨b.symm,z.symm⟩
  clear q;go_wp2;go_ret;exact⟨by rw[c.o.1];rfl,by rw[c.o.2];exact uk.same H.o x.o⟩
 have M:=Lib.hid (t.o q);have c:Hid (V=endE s (((tx0 s).leaX s i name).dropX s n)/\Z=endS s (((tx0 s).leaX s i name).dropX s n)):=by have b:=P.o;rw[zb q]at b;injection b with b z;exact⟨b.symm,z.symm⟩
 have v:¬N.k=2\/(N.k=2/\¬0<N.s):=by
  by_cases b:N.k=2
  .exact zu ⟨b,fun z=>q ⟨b,z⟩⟩
  .exact zt b
 have j:=Lib.hid (H.o.below x.o);have ai:=Lib.hid (oh j.o);clear q;rcases v with I|⟨I,d1⟩
 case' inl=>
  have e8:(N.k==2)=false:=by simpa using I
  clear I
 case' inr=>
  have e8:(N.k==2)=true:=by simp[I]
  have e9:decide (0<N.s)=false:=zK d1;clear I d1
 all_goals
  go_wp2_with fail
  refine ai.o.mono ?_;rintro e w4 ⟨gt,T,rfl,C,hT⟩;have ao:=Lib.hid C;have HT:Hid (TxAt w4 (w1.alloc (.cells #[N.k,N.m,N.u,N.g,N.s,N.l,N.up,(W,yn,Y)] 59)).heap.size F gt (gf,()) (tx0 s) T):=hT;generalize w1.alloc (.cells #[N.k,N.m,N.u,N.g,N.s,N.l,N.up,(W,yn,Y)] 59)=w3 at *
  have au:=Lib.hid (hH j.o C HT.o Wx i af.o.2.2 name);clear C hT K ad e0 e1 e2 e3 e4 e5 e6 e7 m0 m1 m2 m3 m4 m5 m6 m7;go_wp2_with fail
  refine au.o.mono ?_;rintro e w5 ⟨rfl,d5⟩;have J:=Lib.hid (d5.old ao.o HT.o);obtain⟨T5,t5,u5,v5,k5⟩:=d5;have ah:=Lib.hid (hR j.o J.o t5 n M.o.drop);have ag:=Lib.hid t5;clear t5 u5 v5 k5;go_wp2_with fail
  refine ah.o.mono ?_;rintro e w6 ⟨rfl,d6⟩;have ak:=Lib.hid (d6.old J.o ag.o);obtain⟨T6,t6,u6,v6,k6⟩:=d6;have am:=Lib.hid (mq j.o ak.o t6 M.o.run);clear t6 u6 v6 k6;go_wp2_with fail
  refine am.o.mono ?_;rintro e w7 ⟨rfl,d7⟩;have aj:=Lib.hid (d7.after x.o);clear d7;go_wp2;go_ret;exact⟨by rw[c.o.1];rfl,by rw[c.o.2];exact aj.o⟩
theorem Vs (h:FsAt w gf s F a) (i:Nat) (X:Pn) (D:List Int) (K:DirS s i X D) (name:ByteArray) (J:ru name=true) (k m u g:Int) (N:k=1\/k=2) (O:0<=m/\m<=511) (L:0<=u/\u<=255) (M:0<=g/\g<=255)
 (I:rY D name=0->∀n,qt s=some n->pD s i n (newP k m u g i) [] name):
 Calls prog 7 #[(gf,()),.int .i64 ((i:Int)+1),.string name,k,m,u,g] w
  (fun e w'=>e=.returned (.tuple #[.int .i64 (addM s i D name k m u g []).1.1,.int .i64 (addM s i D name k m u g []).1.2])/\uk w gf (addM s i D name k m u g []).2 F a w'):=by
 have b:=Lib.hid (Yn h i X D K name J k m u g (.slice none 0 0) [] ⟨⟨rfl,zt ⟨rfl,_,_,rfl⟩⟩,fun q n c r=>by injection r with G z H;omega⟩ (by simp) (fun q f=>by cases f) I);obtain⟨R,l⟩:=zD (addM s i D name k m u g []);rw[l.o]at b ⊢;have p:=Lib.hid (kG u g L M w);obtain⟨A,B⟩:=O;have y:decide (m<0)=false:=zK (by omega);have t:decide (511<m)=false:=zK (by omega);have x:¬m<0:=by omega
 have E:¬511<m:=by omega
 clear h K L M I;go_enter func7,ntmps7;rcases N with rfl|rfl;all_goals
  go_wp2_with fail
  refine p.o.mono ?_;rintro e v ⟨rfl,rfl⟩;go_wp2_with fail
  refine b.o.mono ?_;rintro e C ⟨rfl,d⟩;have j:=Lib.hid d;clear d;go_wp2;go_ret2;exact⟨rfl,j.o⟩
def sy (N:Pn):Pn:={N with l:=N.l+1}
def lnkM (s:Fs) (i n:Nat) (D:List Int) (name:ByteArray):Int×Fs:=
 let N:=s.nodes.getD n zN
 if N.k=0\/N.l=0 then (4,s) else if N.k=2 then (12,s) else if rY D name≠0 then (rY D name,s) else if N.l=200 then (6,s) else
 let x:=(tx0 s).setX n (sy N)
 if tC (x.dirD s i) (name,(n:Int)+1)=0 then (endE s (x.entX s i (name,(n:Int)+1)),endS s (x.entX s i (name,(n:Int)+1))) else (tC (x.dirD s i) (name,(n:Int)+1),s)
structure j6 (s:Fs) (i n:Nat) (name:ByteArray):Prop where
 dir:DirT ((tx0 s).setX n (sy (s.nodes.getD n zN))) s i (((tx0 s).setX n (sy (s.nodes.getD n zN))).nodes.getD i zN) (((tx0 s).setX n (sy (s.nodes.getD n zN))).dirD s i)
 run:tC (((tx0 s).setX n (sy (s.nodes.getD n zN))).dirD s i) (name,(n:Int)+1)=0->rN s (((tx0 s).setX n (sy (s.nodes.getD n zN))).entX s i (name,(n:Int)+1))
theorem QT {n:Nat} {N:Pn}:lK ((tx0 s).setX n N):=⟨by show (256:Int)<=256;omega,by show (256:Int)<900000;omega,ye _,by show (0:Nat)<800;omega,by have:=oS ((n:Int)+1) (Value.bool true) ([]:List (Int×Value));show (putZ [] _ _).length<890;simp at this;omega⟩
theorem Rz (h:FsAt w gf s F a) (i:Nat) (X:Pn) (D:List Int) (hd:DirS s i X D) (name:ByteArray) (ah:ru name=true) (n:Nat) (aa:n<32) (hl:0<=(s.nodes.getD n zN).l/\(s.nodes.getD n zN).l<=200)
 (af:(s.nodes.getD n zN).k≠0->(s.nodes.getD n zN).k≠2->(s.nodes.getD n zN).l≠0->(s.nodes.getD n zN).l≠200->rY D name=0->j6 s i n name):
 Calls prog 65 #[(gf,()),.int .i64 ((i:Int)+1),.string name,.int .i64 ((n:Int)+1)] w
  (fun e w'=>e=.returned (.int .i64 (lnkM s i n D name).1)/\uk w gf (lnkM s i n D name).2 F a w'):=by
 have H:=Lib.hid h;have a6:Hid (s.nodes.length=32):=h.len;have a1:=Lib.hid (fun W=>gV name W);rw[ah]at a1;have ai:Hid (∀W:World,Below w w W->Calls prog 71 #[(gf,()),.int .i64 ((i:Int)+1),.string name] W (fun e w'=>e=.returned (.int .i64 (rY D name))/\Below W W w')):=fun W hW=>X8 (h.below hW) i X D hd name ah;have aA:Hid (rY D name=0\/rY D name=5):=by show _\/_;unfold rY;split<;>simp
 obtain⟨N,HN⟩:=zD (s.nodes.getD n zN);have O:s.nodes[n]?=some N:=by rw[<-HN.o];exact mu (by rw[a6.o];exact aa)
 have bd:=Lib.hid O;rw[HN.o]at hl af;have a5:=Lib.hid af;have aF:Hid (∀W:World,Below w w W->Calls prog 41 #[(gf,()),.int .i64 ((n:Int)+1)] W (fun e w'=>e=.returned (.bool (decide (N.k≠0)))/\W=w')):=fun W hW=>gX (h.below hW) n aa N O;have ad:Hid (∀W:World,Below w w W->∃gn on cn,W.cell? (gf,195)=some (.slice (some ⟨gn,on,none⟩) 32 cn)/\gn<W.heap.size/\W.cell? ⟨gn,on+n*8,none⟩=some (.int .i64 N.k)/\W.cell? ⟨gn,on+n*8+5,none⟩=some (.int .i64 N.l)):=fun W hW=>by obtain⟨gn,on,cn,yq,yn,yc,j,E,e0,e1,e2,e3,e4,e5,_⟩:=oU (h.below hW) n aa N O;exact⟨gn,on,cn,j,E,e0,e5⟩
 obtain⟨R,HR⟩:=zD (lnkM s i n D name);rw[HR.o];obtain⟨re,rs⟩:=R;obtain⟨t,A⟩:=zD N.k;obtain⟨f,B⟩:=zD N.l;obtain⟨pe,ae⟩:=zD (rY D name);have HM:Hid ((if t=0\/f=0 then (4,s) else if t=2 then (12,s) else if pe≠0 then (pe,s) else if f=200 then (6,s) else if tC (((tx0 s).setX n (sy N)).dirD s i) (name,(n:Int)+1)=0 then (endE s (((tx0 s).setX n (sy N)).entX s i (name,(n:Int)+1)),endS s (((tx0 s).setX n (sy N)).entX s i (name,(n:Int)+1))) else (tC (((tx0 s).setX n (sy N)).dirD s i) (name,(n:Int)+1),s))=(re,rs)):=by show _=_;rw[<-HR.o,<-A.o,<-B.o,<-ae.o,<-HN.o];rfl
 rw[A.o,B.o,ae.o]at a5;rw[A.o]at aF;rw[A.o,B.o]at ad;rw[ae.o]at ai aA;rw[B.o]at hl;have i1:IntKind.i64.wrap ((n:Int)+1-1)=(n:Int):=by rw[zQ _ (by omega)];omega
 have bh:(n:Int)<32:=by omega
 have iw:=zW (f+1);have bv:=Lib.hid hl;clear h hd af O hl;have Z:∀(e:Int) (W:World),Below w w W->((e,s):Int×Fs)=(re,rs)->e=re/\uk w gf rs F a W:=fun e W hW he=>by injection he with b h2;exact⟨b,by rw[<-h2];exact uk.same H.o hW⟩
 have d:=Lib.hid Z;clear Z;obtain⟨gn,on,cn,j,E,e0,e5⟩:=ad.o w zB;go_enter func65,ntmps65;go_wp2_with fail
 refine (a1.o w).mono ?_;rintro e w0 ⟨rfl,rfl⟩;go_wp2_with fail
 refine (aF.o w zB).mono ?_;rintro e w0 ⟨rfl,rfl⟩;by_cases I:t=0
 .subst I;have p:=Lib.hid (d.o 4 w zB (by have b:=HM.o;rw[ze (zt rfl)]at b;exact b));go_wp2;go_ret;exact⟨by rw[<-p.o.1];rfl,p.o.2⟩
 have ac:decide (t≠0)=true:=yf I;have K:=Lib.hid I;rw[ac];by_cases M:f=0
 .subst M;have p:=Lib.hid (d.o 4 w zB (by have b:=HM.o;rw[ze (zu rfl)]at b;exact b));clear I ac;go_wp2;go_ret;exact⟨by rw[<-p.o.1];rfl,p.o.2⟩
 have b9:(f==0)=false:=by simpa using M
 have C:=Lib.hid M;clear I ac M;go_wp2_with fail
 refine (ai.o w zB).mono ?_;rintro e w1 ⟨rfl,aJ⟩;have S:=Lib.hid aJ;clear aJ j E e0 e5;obtain⟨gn,on,cn,j,E,e0,e5⟩:=ad.o w1 S.o;have a0:∀W:World,((pe=5/\¬pe=0)\/pe=0):=fun _=>aA.o.elim (fun h=>zu h) fun h=>zt ⟨h,by omega⟩;have ay:=a0 w;clear a0;rcases ay with⟨rfl,_⟩|rfl;all_goals
  by_cases z:t=2
  case' pos =>have p:=Lib.hid (d.o 12 w1 S.o (by have b:=HM.o;rw[zb (fun hc=>hc.elim K.o C.o),ze z]at b;exact b));have b2:(t==2)=true:=(by simp[z]);clear z;go_wp2;go_ret;exact⟨by rw[<-p.o.1];rfl,p.o.2⟩
 all_goals
  have b2:(t==2)=false:=by simpa using z
  have P:=Lib.hid z;clear z;go_wp2_with fail
  refine (ai.o w1 S.o).mono ?_;rintro e w3 ⟨rfl,a3⟩;have v:Hid (Below w w w3):=Below.step S.o a3;clear a3 j E e0 e5
 .have p:=Lib.hid (d.o 5 w3 v.o (by have b:=HM.o;rw[zb (fun hc=>hc.elim K.o C.o),zb P.o,ze (by decide)]at b;exact b));go_wp2;go_ret;exact⟨by rw[<-p.o.1];rfl,p.o.2⟩
 have V:=Lib.hid (H.o.below v.o);have aX:=Lib.hid (oh V.o);go_wp2_with fail
 refine aX.o.mono ?_;rintro e w4 ⟨gt,T,rfl,aH,hT⟩;have al:=Lib.hid aH;have HT:Hid (TxAt w4 w3 F gt (gf,()) (tx0 s) T):=hT;have ag:=mp HT.o n aa N bd.o;rw[A.o,B.o]at ag;have aT:=Lib.hid ag;clear aH hT ag;go_wp2_with fail
 refine aT.o.mono ?_;rintro e L ⟨q,J,c,rfl,ab,an⟩;have bg:=Lib.hid ab;have U:=Lib.hid an;by_cases x:f=200
 .have p:=Lib.hid (d.o 6 (L.alloc (.cells #[t,N.m,N.u,N.g,N.s,f,N.up,(q,J,c)] 59)) ((Below.step (Below.step v.o al.o) U.o).alloc (Below.step (Below.step v.o al.o) U.o).size _) (by have b:=HM.o;rw[zb (fun hc=>hc.elim K.o C.o),zb P.o,zb (by decide),ze x]at b;exact b));have a7:(f==200)=true:=by simp[x]
  have s5:=(uI (zT L (.cells #[t,N.m,N.u,N.g,N.s,f,N.up,(q,J,c)] 59))).2.2.2.2.2.1;clear x ab an;go_wp2;go_ret;exact⟨by rw[<-p.o.1];rfl,p.o.2⟩
 have a7:(f==200)=false:=by simpa using x
 have aZ:=Lib.hid x;have G:=a5.o K.o P.o C.o x trivial;have ap:=G.dir;have aj:=G.run;rw[HN.o]at ap aj;have ba:=Lib.hid ap;have aR:=Lib.hid aj;obtain⟨gb,ax⟩:=zD L.heap.size;have aw:Hid ((L.alloc (.cells #[t,N.m,N.u,N.g,N.s,f,N.up,(q,J,c)] 59)).heap[gb]?=some (.cells #[t,N.m,N.u,N.g,N.s,f,N.up,(q,J,c)] 59)):=by rw[<-ax.o];exact zH
 have s5:=(uI aw.o).2.2.2.2.2.1;have z5:(L.alloc (.cells #[t,N.m,N.u,N.g,N.s,f,N.up,(q,J,c)] 59)).frozen? (gb,5)=false:=zF aw.o;have aV:Hid ((L.alloc (.cells #[t,N.m,N.u,N.g,N.s,.int .i64 (f+1),N.up,(q,J,c)] 59)).heap[L.heap.size]?=some (.cells #[t,N.m,N.u,N.g,N.s,.int .i64 (f+1),N.up,(q,J,c)] 59)):=zH;have y:Hid (Below L L (L.alloc (.cells #[t,N.m,N.u,N.g,N.s,.int .i64 (f+1),N.up,(q,J,c)] 59))):=zB.alloc zL _;obtain⟨m0,m1,m2,m3,m4,m5,m6,m7⟩:=uI aV.o;rw[<-ax.o]at s5 z5;have a2:=Lib.hid (HT.o.below U.o);have Y:=lI (a2.o.below y.o) n aa (sy N) q J c (bg.o.below y.o) (by show (0:Nat)<900;omega);have e7:(Calls prog 37 #[(gt,()),.int .i64 ((n:Int)+1),.agg #[N.k,N.m,N.u,N.g,N.s,.int .i64 (N.l+1),N.up,(q,J,c)]] _ _):=Y;rw[A.o,B.o]at e7;have aE:=Lib.hid e7;have bc:=Lib.hid (a2.o.below y.o);have az:Hid (Below w3 w3 (L.alloc (.cells #[t,N.m,N.u,N.g,N.s,.int .i64 (f+1),N.up,(q,J,c)] 59))):=Below.step (Below.step al.o U.o) y.o;clear x ab an G ap aj Y e7;go_wp2_with fail
 refine aE.o.mono ?_;rintro e w6 ⟨rfl,d6⟩;have aK:vS w3 F gt (gf,()) ((tx0 s).setX n (sy N)) T _ w6:=d6;have Q:=Lib.hid (aK.old az.o bc.o);obtain⟨T6,t6,u6,v6,k6⟩:=aK;have aI:=Lib.hid t6;have a9:=Lib.hid (Zi V.o Q.o t6 (fun r hr=>zm (V.o.fin r hr) Q.o.size) QT i _ _ ba.o (name,(n:Int)+1));clear t6 u6 v6 k6 d6 m0 m1 m2 m3 m4 m5 m6 m7 s5 z5;obtain⟨qe,Hq⟩:=zD (tC (((tx0 s).setX n (sy N)).dirD s i) (name,(n:Int)+1));rw[Hq.o]at a9;have ao:=HM.o;rw[zb (fun hc=>hc.elim K.o C.o),zb P.o,zb (by decide),zb aZ.o,Hq.o]at ao;have aB:=Lib.hid ao;clear ao;go_wp2_with fail
 refine a9.o.mono ?_;rintro e w7 ⟨rfl,d7⟩;by_cases hq:qe=0;case neg=>
  rw[zb hq]at d7;have b0:(qe==0)=false:=by simpa using hq
  have b1:(qe != 0)=true:=by simpa using hq
  have ak:=Lib.hid (d7.old Q.o aI.o);have p:=Lib.hid (d.o qe w7 (v.o.trans (ak.o.mono v.o.size)) (by have b:=aB.o;rw[zb hq]at b;exact b));clear d7;go_wp2;go_ret;exact⟨by rw[<-p.o.1];rfl,p.o.2⟩
 subst hq;rw[ze rfl]at d7;have ak:=Lib.hid (d7.old Q.o aI.o);obtain⟨T7,t7,u7,v7,k7⟩:=d7;have bb:=Lib.hid (mq V.o ak.o t7 (aR.o Hq.o));clear t7 u7 v7 k7;go_wp2_with fail
 refine bb.o.mono ?_;rintro e w8 ⟨rfl,d8⟩;have aP:=Lib.hid (d8.after v.o);have aG:Hid (re=endE s (((tx0 s).setX n (sy N)).entX s i (name,(n:Int)+1))/\rs=endS s (((tx0 s).setX n (sy N)).entX s i (name,(n:Int)+1))):=by have b:=aB.o;rw[ze (by trivial)]at b;injection b with b h2;exact⟨b.symm,h2.symm⟩
 clear d8;go_wp2;go_ret;exact⟨by rw[aG.o.1];rfl,by rw[aG.o.2];exact aP.o⟩
def sX (old Dt:List Int) (p k:Nat):Nat->List Int
 | 0=>old
 | i+1=>if p<=64*k+i/\64*k+i<p+Dt.length then (sX old Dt p k i).set i (Dt.getD (64*k+i-p) 0) else sX old Dt p k i
theorem VM (a Dt:List Int) (p k:Nat):∀i,(sX a Dt p k i).length=a.length
 | 0=>rfl
 | i+1=>by
  unfold sX;split
  .rw[xG];exact VM a Dt p k i
  .exact VM a Dt p k i
def wrtU (s:Fs) (x:Tx) (Dt:List Int) (p k0:Nat) (st:Uw):Nat->Uw
 | 0=>st
 | j+1=>wrU s.k (wrtU s x Dt p k0 st j) (k0+j) (sX (sB {x.wow (wrtU s x Dt p k0 st j).ow with put:=(wrtU s x Dt p k0 st j).put} s (wrtU s x Dt p k0 st j).P (k0+j)) Dt p (k0+j) 64)
def WtIn (k:Nat) (y:Uw):Prop:=UwIn y/\∀p∈y.P,p<(k:Int)\/(getZ y.put p).isSome=true
theorem wrU_wt {k:Nat} (i:Nat) (D:List Int) (e:k<=256) (h:WtIn k y):WtIn k (wrU k y i D)/\(wrU k y i D).ow.fk<=y.ow.fk+1:=by
 obtain⟨a,b⟩:=ZD i D e h.1;refine⟨⟨a,fun p d=>?_⟩,b⟩;show p<(k:Int)\/(getZ (putZ y.put (ownU y.ow k (y.P.getD i 0)).1 D) p).isSome=true;by_cases c:p=(ownU y.ow k (y.P.getD i 0)).1
 .rw[c,ZC];exact zu rfl
 .rw[lu D c];exact h.2 p ((vu d).resolve_right c)
theorem ZV {s:Fs} {x:Tx} {Dt:List Int} {p k0:Nat} {st:Uw} (j:s.k<=256) (h:WtIn s.k st):∀i,WtIn s.k (wrtU s x Dt p k0 st i)/\(wrtU s x Dt p k0 st i).ow.fk<=st.ow.fk+i/\(wrtU s x Dt p k0 st i).P.length=st.P.length/\(wrtU s x Dt p k0 st i).put.length<=st.put.length+i
 | 0=>⟨h,by show st.ow.fk<=_;omega,rfl,zL⟩
 | i+1=>by obtain⟨a,b,c,d⟩:=ZV (x:=x) (Dt:=Dt) (p:=p) (k0:=k0) j h i;unfold wrtU;obtain⟨e,f⟩:=wrU_wt (k0+i) (sX (sB {x.wow (wrtU s x Dt p k0 st i).ow with put:=(wrtU s x Dt p k0 st i).put} s (wrtU s x Dt p k0 st i).P (k0+i)) Dt p (k0+i) 64) j a;obtain⟨g,l⟩:=ZY s.k (wrtU s x Dt p k0 st i) (k0+i) (sX (sB {x.wow (wrtU s x Dt p k0 st i).ow with put:=(wrtU s x Dt p k0 st i).put} s (wrtU s x Dt p k0 st i).P (k0+i)) Dt p (k0+i) 64);exact⟨e,by omega,g.trans c,by omega⟩
theorem WtIn.pts {x:Tx} (h:WtIn s.k y) (b:y.ow.fk<=1000000):∀p∈y.P,PtR {x.wow y.ow with put:=y.put} s p:=fun p a=>⟨(h.1.1 p a).1,wN (h.1.1 p a).2 b,h.2 p a⟩
theorem Iv {B:Nat} {F1:Nat->Prop} {fp:Value} {x:Tx} (h:TxAt w B F gt fp x T) (d:FsAt w gf s F1 a) (P:List Int) (k:Nat) (f:∀p∈P,PtR x s p):(sB x s P k).length=64:=by
 unfold sB;split
 .simp
 .next c=>
  by_cases b:k<P.length
  .have e:P.getD k 0=P[k]:=(by rw[zh,zf b];rfl);rw[e];exact YP h d (f _ (zz b))
  .exact yb (by rw[zh,yd (by omega)];rfl) c
theorem UA (cur:Array Value) (D:List Int) (n i:Nat) (x:Int) (a:cur.toList.take n=u8s D) (_hi:i<n):(cur.setIfInBounds i (.int .u8 x)).toList.take n=u8s (D.set i x):=by rw[wP,List.take_set,a];simp[u8s,uZ]
def wrtY (s:Fs) (X:Pn) (p:Nat) (Dt:List Int):Uw:=wrtU s (tx0 s) Dt p (p / 64) ⟨(tx0 s).ow,[],X.P++List.replicate ((p+Dt.length+63) / 64-X.P.length) 0⟩ ((p+Dt.length-1) / 64+1-p / 64)
def wrtP (s:Fs) (X:Pn) (p:Nat) (Dt:List Int):Pn:={X with P:=(wrtY s X p Dt).P,s:=max X.s ((p+Dt.length:Nat):Int)}
def wrtT (s:Fs) (i:Nat) (X:Pn) (p:Nat) (Dt:List Int):Tx:={((tx0 s).wow (wrtY s X p Dt).ow) with put:=(wrtY s X p Dt).put,nodes:=s.nodes.set i (wrtP s X p Dt),dirty:=putZ [] ((i:Int)+1) (.bool true)}
def wrtM (s:Fs) (i p:Nat) (Dt:List Int):(Int×Int)×Fs:=
 let X:=s.nodes.getD i zN
 if X.k=0 then ((0,4),s) else if X.k≠1 then ((0,12),s) else if 512<p+Dt.length then ((0,2),s) else if Dt.length=0 then ((0,0),s) else
 (if endE s (wrtT s i X p Dt)=0 then ((Dt.length:Int),0) else (0,endE s (wrtT s i X p Dt)),endS s (wrtT s i X p Dt))
structure WA (w3:World) (gb:Nat) (X:Pn) (Pj:List Int) (q:Option Addr) (j c:Nat) (wq:World):Prop where
 row:wq.heap[gb]?=some (.cells #[X.k,X.m,X.u,X.g,X.s,X.l,X.up,(q,j,c)] 59)
 own:wq.ownsRow w3 3 1 (q,j,c) j (ints Pj)
 bel:yK (fun i=>i=gb) w3 wq
theorem NH (h:FsAt w gf s F a) (i:Nat) (hi:i<32) (X:Pn) (hX:s.nodes[i]?=some X) (hk:X.k=1) (hP:ng X.P s.k) (ao:X.P.length<=8) (hs:0<=X.s/\X.s<=512)
 (p:Nat) (v:Value) (Dt:List Int) (hv:tQ w v Dt) (aC:0<Dt.length) (aK:p+Dt.length<=512) (hr:rN s (wrtT s i X p Dt)):
 Calls prog 10 #[(gf,()),.int .i64 ((i:Int)+1),p,v] w
  (fun e w'=>e=.returned (.tuple #[.int .i64 (if endE s (wrtT s i X p Dt)=0 then ((Dt.length:Int),(0:Int)) else (0,endE s (wrtT s i X p Dt))).1,.int .i64 (if endE s (wrtT s i X p Dt)=0 then ((Dt.length:Int),(0:Int)) else (0,endE s (wrtT s i X p Dt))).2])/\uk w gf (endS s (wrtT s i X p Dt)) F a w'):=by
 obtain⟨sN,hs⟩:∃sN:Nat,X.s=(sN:Int):=⟨X.s.toNat,by omega⟩;obtain⟨XT,b8⟩:=zD (wrtT s i X p Dt);rw[b8.o]at hr ⊢;obtain⟨y,cw⟩:=zD (wrtY s X p Dt);have hy:=cw.o;unfold wrtY at hy;have H:=Lib.hid h;have cF:=Lib.hid h.fin;have bb:=gU h i hi X hX;rw[hk,zb (by omega),ze rfl]at bb;have dR:Hid (Calls prog 30 #[(gf,()),.int .i64 ((i:Int)+1)] w (fun e w'=>e=.returned ()/\w=w')):=bb;have dc:=Lib.hid (oh h);obtain⟨L,HL⟩:=zD Dt.length;obtain⟨vp,vc,dH⟩:=mH hv.1 L HL.o;subst dH;obtain⟨_,⟨h0,_⟩|⟨gv,ov,cv,dm,bf⟩⟩:=id hv.1
 .omega
 injection dm with e1 e2 e3;subst e1 e3;clear e2;have cY:gv<w.heap.size:=zG (bf 0 _ (sJ Dt 0 (by omega)));have dg:Hid (∀(j:Nat) (hj:j<Dt.length),w.cell? (gv,ov+j)=some (.int .u8 Dt[j])):=fun j hj=>bf j _ (sJ Dt j hj);obtain⟨K,HK⟩:=zD ((p+Dt.length+63) / 64);have dx:Hid (∀W:World,Calls prog 34 #[.int .i64 ((p:Int)+(L:Int))] W fun e w'=>e=.returned K/\W=w'):=fun W=>by
  have:=WY ((p:Int)+(L:Int)) W (by have:=HL.o;omega) (by have:=HL.o;omega);have e:tX ((p:Int)+(L:Int))=(K:Int):=by unfold tX;rw[<-HK.o,<-HL.o];split<;>omega
  rw[e]at this;exact this
 rw[HK.o,HL.o]at hy;rw[HL.o]at aC aK ⊢;have eJ:K<=8:=by rw[<-HK.o,HL.o];omega
 obtain⟨k0,bp⟩:=zD (p / 64);obtain⟨k1,aI⟩:=zD ((p+L-1) / 64);rw[bp.o,aI.o]at hy;have aG:Hid (k0<=k1/\k1<K):=by constructor<;>(have B:=bp.o;have h2:=aI.o;have h3:=HK.o;rw[HL.o]at h3;omega)
 have HY:=Lib.hid hy;have cX:=Lib.hid (fun (W:World) (U:Nat) (T:Nat->Prop) (hT:TxAt W w F U (gf,()) (tx0 s) T)=>mp hT i hi X hX);have dv:=Lib.hid hP;have aS:Hid (∀(W:World) (U:Nat) (T:Nat->Prop),Below w w W->TxAt W w F U (gf,()) XT T ->
  Calls prog 38 #[(U,())] W
   (fun e w'=>e=.returned (.int .i64 (endE s XT))/\uk w gf (endS s XT) F a w')):=fun W U T hW hT=>mq H.o hW hT hr
 obtain⟨ee,dt⟩:=zD (endE s XT);obtain⟨es,db⟩:=zD (endS s XT);rw[dt.o,db.o]at aS ⊢;obtain⟨ra,rb,av⟩:∃ra rb,Hid ((if ee=0 then ((L:Int),(0:Int)) else (0,ee))=(ra,rb)):=⟨_,_,rfl⟩;rw[av.o];have p1:decide ((p:Int)<0)=false:=zK (by omega);have p2:¬((p:Int)<0):=by omega
 have p3:decide ((512:Int)<(L:Int))=false:=zK (by omega);have p4:¬((512:Int)<(L:Int)):=by omega
 have p5:=zW (512-(L:Int));have p6:decide (512-(L:Int)<(p:Int))=false:=zK (by omega);have p7:¬(512-(L:Int)<(p:Int)):=by omega
 have p8:((L:Int)==0)=false:=by simp;omega
 have p9:¬L=0:=by omega
 have pE:=zW ((p:Int)+(L:Int));have bX:=Lib.hid hs;clear hk hs h bb hX hP hv hy hr bf;go_enter qH,rG;go_wp2_with fail
 refine dR.o.mono ?_;rintro e w1 ⟨rfl,rfl⟩;go_wp2_with fail
 refine dc.o.mono ?_;rintro e w1 ⟨U,T,rfl,cL,hT⟩;have ah:=Lib.hid cL;have a9:=Lib.hid hT;have c1:=Lib.hid (cX.o w1 U T hT);clear cL hT;go_wp2_with fail
 refine c1.o.mono ?_;rintro e w2 ⟨q,n,c,rfl,aq,cf⟩;have bo:=Lib.hid cf;have dU:=Lib.hid aq;clear cf aq;obtain⟨f,aO⟩:=zD w2.heap.size;have a8:Hid (Below w1 w1 (w2.alloc (.cells #[X.k,X.m,X.u,X.g,X.s,X.l,X.up,(q,n,c)] 59))):=bo.o.alloc bo.o.size _;have aX:Hid ((w2.alloc (.cells #[X.k,X.m,X.u,X.g,X.s,X.l,X.up,(q,n,c)] 59)).heap[f]?=some (.cells #[X.k,X.m,X.u,X.g,X.s,X.l,X.up,(q,n,c)] 59)):=by rw[<-aO.o];exact zH
 have cZ:Hid (vQ (w2.alloc (.cells #[X.k,X.m,X.u,X.g,X.s,X.l,X.up,(q,n,c)] 59)) (q,n,c) X.P):=xT.below dU.o.now (zB.alloc zL _);have dn:w1.heap.size<=f:=by rw[<-aO.o];exact bo.o.size
 have ae:=Lib.hid dn;have bS:Hid (TxAt (w2.alloc (.cells #[X.k,X.m,X.u,X.g,X.s,X.l,X.up,(q,n,c)] 59)) w (fun i=>F i\/w1.heap.size<=i) U (gf,()) (tx0 s) T):=(a9.o.outer fun i hi hg=>hg.elim id fun h=>yb h (rh hi)).below a8.o;have c7:(w2.alloc (.cells #[X.k,X.m,X.u,X.g,X.s,X.l,X.up,(q,n,c)] 59)).cell? (w2.heap.size,7)=some (.slice q n c):=(uI (zH)).2.2.2.2.2.2.2;go_wp2_with fail
 rw[aO.o];rw[aO.o]at c7;generalize (w2.alloc (.cells #[X.k,X.m,X.u,X.g,X.s,X.l,X.up,(q,n,c)] 59))=w3 at *
 refine (Ub (q,n,c) X.P w3 cZ.o (by omega)).mono ?_;rintro e w4 ⟨v4,rfl,aH,a6,_⟩;obtain⟨q4,c4,dL,_⟩:=tR aH;subst dL;obtain⟨m,Hm⟩:=zD X.P.length;rw[Hm.o]at aH ao ⊢;have bl:=Lib.hid (we a6 aX.o);have eH:=Lib.hid (bS.o.below a6);have z7:w4.frozen? (f,7)=false:=zF bl.o;have eA:w4.cell? (f,7)=some (.slice q n c):=(uI bl.o).2.2.2.2.2.2.2;have e6:Hid (Below w1 w1 w4):=Below.step a8.o a6;have aW:=Lib.hid aH;have bH:=Lib.hid a6;have ai:Hid (f<w3.heap.size/\¬T f):=⟨xL aX.o,fun S=>by have:=a9.o.fin f S;have:=ae.o;omega⟩;clear aH a6 c7;have bE:Hid (WA w3 f X X.P q4 m c4 (w4.setCell (f,7) (q4,m,c4))):=by
  have ar:yK (fun i=>i=f) w4 (w4.setCell (f,7) (q4,m,c4)):=yK.setCell (F:=fun i=>i=f) (p:=⟨f,7,none⟩) rfl _;refine⟨zX _ _ 7 _ _ _ bl.o,uV aW.o fun b M=>ar.block b (aW.o.lt b M).2 (fun S=>?_),?_⟩
  .have B:=(aW.o.lt b M).1;rw[S]at B;have:=ai.o.1;omega
  .exact (yK.of_below bH.o).step ar
 generalize e7:w4.setCell (f,7) (q4,m,c4)=w5 at *
 go_wp2;go_loopw [55] (fun _ wq=>∃(j:Nat) (N:Option Addr) (O:Nat),m<=j/\j<=max m K/\Hid (WA w3 f X (X.P++List.replicate (j-m) 0) N j O wq)) (fun _ wq=>100-lenV ((wq.cell? (f,7)).getD undef));case atStart=>exact⟨m,q4,c4,zL,by omega,by rw[uF,List.replicate_zero,xn];exact bE⟩
 case round=>
  obtain⟨j,qj,cj,eC,e8,af⟩:=hrel;have k7:=cell_regrown (uI af.o.row).2.2.2.2.2.2.2;go_wp2_with fail
  refine wp_region_quiet_below (by kernel_rfl) (by kernel_rfl) ?_
  repeat (first
   | go_big_quiet_skip
   | (refine qD 34 #[.tmp 58] #[3] rfl rfl (fun _ _=>by kernel_rfl) #[.int .i64 ((p:Int)+(L:Int))] (by kernel_rfl) (.int .i64 (K:Int)) (fun _ _=>qk) (fun w' _=>(dx.o w').mono fun e w2 ⟨he,dF⟩=>⟨he,dF▸zB⟩) ?_;simp only[Act.put,zM,yj,yh])
   | (go_big_quiet_want;go_big_quiet_op;go_big_quiet_on))
  refine vq ?_;intro Q c8;have aM:=Lib.hid (sL c8);have D:Hid (WA w3 f X (X.P++List.replicate (j-m) 0) qj j cj Q):=⟨we aM.o af.o.row,th af.o.own aM.o,af.o.bel.step (yK.of_below aM.o)⟩;obtain⟨bZ,cD,bU,co,bs,b7,ch,bY⟩:=uI D.o.row;have d4:=Lib.hid (uI af.o.row).2.2.2.2.2.2.2;clear k7 c8 af aM;have cI:Hid (f<Q.heap.size):=xL D.o.row;by_cases eS:j<K
  .have bQ:(j:Int)<(K:Int):=(by omega);obtain⟨i0,bA,cy,bP,cl⟩:=xp jz;have dX:=Lib.hid bA;have dK:=Lib.hid cy;have dG:=Lib.hid bP;have dN:=Lib.hid cl;clear bA cy bP cl;have bG:(ints (X.P++List.replicate (j-m) 0))++[Value.int .i64 0]=ints (X.P++List.replicate (j+1-m) 0):=(by rw[show j+1-m=(j-m)+1 by omega,qM,<-zU];simp[ints]);have d3:=Lib.hid bG;have dY:=Lib.hid (fun o=>th D.o.own ((xW Q Q).alloc zL o));have b4:Hid (w3.heap.size<=Q.heap.size):=D.o.bel.size;have cx:Hid (∀b,(Value.slice qj j cj).ownBlock=some b->w3.heap.size<=b):=fun b M=>(D.o.own.lt b M).1;have dq:Hid (∀(w6:World) (o:Obj),(Q.alloc o).grownBy w6 (Value.slice qj j cj).ownBlock->w6.heap[f]?=some (.cells #[X.k,X.m,X.u,X.g,X.s,X.l,X.up,(qj,j,cj)] 59)/\yK (fun i=>i=f) w3 w6):=fun w6 o hg=>by
    refine⟨?_,?_⟩
    .rw[hg.block f (by have:=cI.o;simp;omega) (fun S=>by have:=cx.o f S.symm;have:=ai.o.1;omega),ui Q o cI.o];exact D.o.row
    .exact (D.o.bel.step (yK.of_below (zB.alloc zL o))).trans (yK.grown (F:=fun r=>w3.heap.size<=r) hg (fun r hr=>cx.o r hr)) (fun i hi=>zu hi)
   clear bG;go_wp2_with (at_builtin;refine yH _ rfl _ _ 49 rfl w3.heap.size 3 i0 (.int .i64 0) 1 8 lk dX.o dK.o dG.o dN.o rfl (by decide) _ _ _ rfl (dY.o _) ⟨Q.heap.size,0,none⟩ 1 1 [.int .i64 0] rfl rfl (xU (cs:=#[.int .i64 0]) (t:=3) (fr:=(0,0)) (zT Q _)) (by simp[Value.oneCell']) (by unfold maxLen;omega) (by omega) (by have:=b4.o;simp;omega) ?_;intro v5 w6 G az _;obtain⟨q5,c5,rfl,_⟩:=tR G;have aD:=Lib.hid (dq.o w6 _ az);have z6:w6.frozen? (f,7)=false:=zF aD.o.1;have c6:w6.cell? (f,7)=some (.slice qj j cj):=(uI aD.o.1).2.2.2.2.2.2.2;have bw:Hid (w6.ownsRow w3 3 1 (q5,(j+1),c5) (j+1) (ints (X.P++List.replicate (j+1-m) 0))):=(by show _;rw[<-d3.o];exact G);clear G az)
   have b6:Hid (WA w3 f X (X.P++List.replicate (j+1-m) 0) q5 (j+1) c5 (w6.setCell (f,7) (q5,(j+1),c5))):=(by have ar:yK (fun i=>i=f) w6 (w6.setCell (f,7) (q5,(j+1),c5)):=yK.setCell (F:=fun i=>i=f) (p:=⟨f,7,none⟩) rfl _;refine⟨zX _ _ 7 _ _ _ aD.o.1,uV bw.o fun b M=>ar.block b (bw.o.lt b M).2 (fun S=>?_),aD.o.2.step ar⟩;have B:=(bw.o.lt b M).1;rw[S]at B;have:=ai.o.1;omega);clear bZ cD bU co bs b7 ch bY;go_wp2;go_roundw;case rel=>exact⟨j+1,q5,c5,by omega,by omega,b6⟩
   case measure =>rw[(uI b6.o.row).2.2.2.2.2.2.2,d4.o];simp[lenV];omega
  .have bQ:¬(j:Int)<(K:Int):=(by omega);rw[bX.o]at bs;obtain⟨R,bN⟩:=zD (max sN (p+L));have eL:max (sN:Int) ((p:Int)+(L:Int))=(R:Int):=(by have:=bN.o;omega);have dz:Q.frozen? (f,4)=false:=zF D.o.row;go_wp2;obtain⟨n1,ak⟩:=zD (k1+1-k0);have dO:K-m=j-m:=(by omega);obtain⟨C,ad⟩:∃z:Uw,Hid ((⟨(tx0 s).ow,[],X.P++List.replicate (j-m) 0⟩:Uw)=z):=⟨_,Lib.hid rfl⟩;have aa:C.P=X.P++List.replicate (j-m) 0:=(by rw[<-ad.o]);have dV:Hid (wrtU s (tx0 s) Dt p k0 C n1=y):=(by have B:=HY.o;rw[Hm.o,dO,ak.o,ad.o]at B;exact B);have cJ:Hid (C.P.length=j):=(by show _=_;rw[aa,zl,zR,Hm.o];omega);have dP:Hid (∀r,WtIn s.k (wrtU s (tx0 s) Dt p k0 C r)/\(wrtU s (tx0 s) Dt p k0 C r).ow.fk<=256+r/\(wrtU s (tx0 s) Dt p k0 C r).P.length=j/\(wrtU s (tx0 s) Dt p k0 C r).put.length<=r):=by
    intro r;have dS:WtIn s.k C:=by
     have bR:∀q∈C.P,0<=q/\q<(s.k:Int):=fun q hq=>by
      rw[aa]at hq;rcases yv.1 hq with hq|hq
      .exact dv.o q hq
      .have:=x9 hq;have:=H.o.k0;omega
     have eN:=H.o.k1;have aJ:C.ow.fk=256:=(by rw[<-ad.o];rfl);exact⟨⟨fun q hq=>by have:=bR q hq;omega,by omega⟩,fun q hq=>zt (bR q hq).2⟩
    obtain⟨a1,a2,a3,a4⟩:=ZV (x:=tx0 s) (Dt:=Dt) (p:=p) (k0:=k0) H.o.k1 dS r;refine⟨a1,?_,a3.trans cJ.o,?_⟩
    .rw[show C.ow.fk=256 by rw[<-ad.o];rfl]at a2;exact a2
    .rw[show C.put=[] by rw[<-ad.o]]at a4;simpa using a4
   have e9:j<=8:=(by omega);have eP:K<=j:=(by omega);have c9:Hid (∃N O,FG w w1 F T U gf f {(tx0 s).wow (C).ow with put:=(C).put} #[X.k,X.m,X.u,X.g,R,X.l,X.up,.slice N j O] (.slice N j O) (Q.setCell (f,4) (.int .i64 (R:Int)))/\vQ (Q.setCell (f,4) (.int .i64 (R:Int))) (.slice N j O) (C).P):=by
    have cC:yK (fun i=>i=f) Q (Q.setCell (f,4) (.int .i64 (R:Int))):=yK.setCell (F:=fun i=>i=f) (p:=⟨f,4,none⟩) rfl _;have bC:=D.o.bel.step cC;have hx:({(tx0 s).wow C.ow with put:=C.put}:Tx)=tx0 s:=(by rw[<-ad.o];rfl);rw[hx];refine⟨qj,cj,⟨⟨T,bS.o.local (zu ae.o) ai.o.2 aX.o (by decide) bC,fun _ hi=>zt hi,fun _ hi=>hi,ai.o.2,fun b M=>?_⟩,zX _ _ 4 _ _ _ D.o.row,(yK.of_below a8.o).trans bC fun i hi=>zu (by rw[hi];exact ae.o)⟩,?_⟩
    .have h2:=(D.o.own.lt b M).1;exact⟨zr a8.o.size h2,fun S=>by have:=a9.o.fin b S;have:=a8.o.size;omega⟩
    .have B:vQ Q (qj,j,cj) C.P:=(by have:=xT.of_owns D.o.own;unfold vQ;rw[cJ.o,aa];exact this);exact Zg B fun b M hl=>cC.block b hl (fun S=>by have h2:=(D.o.own.lt b M).1;rw[S]at h2;have:=ai.o.1;omega)
   clear bZ cD bU co bs b7 ch bY dz aa;generalize Q.setCell (f,4) (.int .i64 (R:Int))=w8 at *
   go_loopw [14] (fun kv wq=>∃r:Nat,r<=n1/\kv=.int .i64 ((k0+r:Nat):Int)/\Hid (∃N O,FG w w1 F T U gf f {(tx0 s).wow (wrtU s (tx0 s) Dt p k0 C r).ow with put:=(wrtU s (tx0 s) Dt p k0 C r).put} #[X.k,X.m,X.u,X.g,R,X.l,X.up,.slice N j O] (.slice N j O) wq/\vQ wq (.slice N j O) (wrtU s (tx0 s) Dt p k0 C r).P)) (fun kv _=>100-(intOf kv).toNat)
   case atStart=>exact⟨0,ye _,congrArg (Value.int .i64) (by have:=bp.o;omega),c9⟩
   case round=>
    obtain⟨aj,c3⟩:∃x,x=wr:=⟨_,rfl⟩;obtain⟨r,ex,rfl,bK⟩:=hrel;obtain⟨d,V⟩:=zD (k0+r);rw[V.o];have iE:=zW ((p:Int)+(L:Int)-1);obtain⟨a0,aJ,ab,br⟩:=dP.o r;have eD:r<=8:=(by have h2:=ak.o;have h3:=aG.o;omega);obtain⟨A,bx⟩:=zD (wrtU s (tx0 s) Dt p k0 C r);rw[bx.o]at bK a0 aJ ab br;obtain⟨N,O,⟨⟨T',am,t1,t2,t3,t4⟩,au,a7⟩,aw⟩:=bK.o;by_cases cA:r<n1
    .have bO:d<8:=(by have B:=V.o;have h2:=ak.o;have h3:=aG.o;omega);have ay:(d:Int)<=((p:Int)+(L:Int)-1) / 64:=(by have B:=V.o;have h2:=ak.o;have h3:=aI.o;omega);have bu:decide ((d:Int)<=((p:Int)+(L:Int)-1) / 64)=true:=yf ay;have bv:d<A.P.length:=(by have B:=aG.o;have h2:=V.o;have h3:=ak.o;omega);have bT:A.P.getD d 0=A.P[d]:=(by rw[zh,zf bv];rfl);obtain⟨p',o',G⟩:∃p' o',ownU A.ow s.k A.P[d]=(p',o'):=⟨_,_,rfl⟩;have ax:∀q∈A.P,PtR {(tx0 s).wow A.ow with put:=A.put} s q:=a0.pts (by omega);have a5:Below w w wr:=ah.o.trans (a7.to_below a9.o.new ah.o.size);have aZ:=H.o.below a5;have bn:=Lib.hid (LZ am aZ {X with P:=A.P,s:=(R:Int)} N j O aw d bO ax (by show A.P.length<=8;omega));have Y:Hid ((sB {(tx0 s).wow A.ow with put:=A.put} s A.P d).length=64):=Iv am aZ A.P d ax;obtain⟨D0,bW⟩:=zD (sB {(tx0 s).wow A.ow with put:=A.put} s A.P d);rw[show (({X with P:=A.P,s:=(R:Int)}:Pn).P)=A.P from rfl]at bn;have ds:Hid (wrtU s (tx0 s) Dt p k0 C (r+1)=⟨o',putZ A.put p' (sX D0 Dt p d 64),A.P.set d p'⟩):=(by show wrU s.k (wrtU s (tx0 s) Dt p k0 C r) (k0+r) (sX (sB {(tx0 s).wow (wrtU s (tx0 s) Dt p k0 C r).ow with put:=(wrtU s (tx0 s) Dt p k0 C r).put} s (wrtU s (tx0 s) Dt p k0 C r).P (k0+r)) Dt p (k0+r) 64)=_;rw[bx.o,V.o,bW.o];unfold wrU;rw[bT,G]);rw[bW.o]at bn Y;obtain⟨r0,r1,r2,r3,r4,r5,r6,r7⟩:=uI au;have bg:=Lib.hid am;have aN:=Lib.hid au;have bV:=Lib.hid aw;have bk:Hid (yK T w1 wr/\(∀i,T' i->T i\/w1.heap.size<=i)/\(∀i,T i->T' i)/\¬T' f/\f<wr.heap.size):=⟨a7,t1,t2,t3,xL au⟩;have E:=Lib.hid a5;have b5:=Lib.hid G;have bM:Hid (0<=A.P[d]/\A.P[d]<=1000000):=(by have B:=a0.1.1 _ (zz bv);show 0<=A.P[d]/\A.P[d]<=1000000;omega);have dr:Hid (A.ow.fk<1000000):=(by show A.ow.fk<1000000;omega);have ci:Hid (A.put.length<900):=(by show A.put.length<900;omega);have Z:=Lib.hid ab;clear am t1 t2 t3 t4 au aw a7 G bT ax a5 aZ a0 aJ br ab;go_wp2_with fail
     refine bn.o.mono ?_;rintro e w9 ⟨v9,rfl,g,bi,aE,cr,bj,cz,bc,cc⟩;rw[Y.o]at cr bc bj;subst cr;have aA:Hid (wr.heap.size<=g/\64<=bi):=bj;have dk:=Lib.hid cz;have df:=Lib.hid bc;have bI:=Lib.hid cc;rw[<-c3]at bI aA bg aN bV bk E;clear bj cz bc cc r0 r1 r2 r3 r4 r5 r6 r7;go_wp2;go_loopw [86] (fun iv wq=>∃(i:Nat) (cu:Array Value),i<=64/\iv=.int .i64 i/\Hid (wq.heap[g]?=some (.cells cu 5)/\cu.toList.take 64=u8s (sX D0 Dt p d i)/\cu.size=aE.size)/\Hid (Below aj aj wq)) (fun iv _=>64-(intOf iv).toNat);case atStart=>exact⟨0,aE,by omega,rfl,⟨dk.o,df.o,rfl⟩,bI.o⟩
     case round=>
      obtain⟨i,cu,em,rfl,J,I⟩:=hrel;have i1:=zW (64*(d:Int));have i2:=zW (64*(d:Int)+(i:Int));by_cases dl:i<64
      .have ek:(i:Int)<64:=(by omega);have dM:i<cu.size:=(by have B:=congrArg List.length J.o.2.1;rw[zi,vO,VM,Y.o,yp]at B;omega);by_cases bL:p<=64*d+i/\64*d+i<p+L
       .obtain⟨aQ,ck⟩:=bL;have e1:decide ((p:Int)<=64*(d:Int)+(i:Int))=true:=yf (by omega);have e2:(p:Int)<=64*(d:Int)+(i:Int):=(by omega);have e3:decide (64*(d:Int)+(i:Int)<(p:Int)+(L:Int))=true:=yf (by omega);have e4:64*(d:Int)+(i:Int)<(p:Int)+(L:Int):=(by omega);obtain⟨r',bd⟩:=zD (64*d+i-p);have d8:r'<L:=(by have:=bd.o;omega);have ba:r'<Dt.length:=(by rw[HL.o];exact d8);have i3:IntKind.i64.wrap (64*(d:Int)+(i:Int)-(p:Int))=(r':Int):=(by rw[zQ _ (by omega)];have:=bd.o;omega);have cd:wr.cell? (gv,ov+r')=some (.int .u8 Dt[r']):=((E.o.trans (I.o.mono E.o.size)).cell (p:=⟨gv,ov+r',none⟩) cY).trans (dg.o r' ba);have zg:wr.frozen? (g,i)=false:=zF J.o.1;have cg:wr.cell? (g,i)=some cu[i]:=(zC J.o.1).trans (xt dM);obtain⟨dd,cB⟩:=zD (Dt[r']' ba);rw[cB.o]at cd;have aF:Hid ((wr.setCell (g,i) (.int .u8 dd)).heap[g]?=some (.cells (cu.setIfInBounds i (.int .u8 dd)) 5)/\(cu.setIfInBounds i (.int .u8 dd)).toList.take 64=u8s (sX D0 Dt p d (i+1))/\(cu.setIfInBounds i (.int .u8 dd)).size=aE.size):=by
         refine⟨zX _ _ i _ _ _ J.o.1,?_,by rw[wb];exact J.o.2.2⟩;have e:sX D0 Dt p d (i+1)=(sX D0 Dt p d i).set i dd:=by
          conv=>lhs;unfold sX
          rw[ze ⟨aQ,by rw[HL.o];exact ck⟩,bd.o,zh,zf ba,tt,cB.o]
         rw[e];exact UA _ _ _ _ _ J.o.2.1 dl
        have dw:Hid (Below aj aj (wr.setCell (g,i) (.int .u8 dd))):=I.o.setCell (p:=⟨g,i,none⟩) aA.o.1 _;go_wp2;go_roundw;case rel=>exact⟨i+1,_,by omega,by go_num,aF,dw⟩
        case measure=>simp[intOf];omega
       .have aF:Hid (wr.heap[g]?=some (.cells cu 5)/\cu.toList.take 64=u8s (sX D0 Dt p d (i+1))/\cu.size=aE.size):=by
         refine⟨J.o.1,?_,J.o.2.2⟩;have e:sX D0 Dt p d (i+1)=sX D0 Dt p d i:=by
          conv=>lhs;unfold sX
          rw[zb (by rw[HL.o];exact bL)]
         rw[e];exact J.o.2.1
        by_cases aQ:p<=64*d+i
        .have e1:decide ((p:Int)<=64*(d:Int)+(i:Int))=true:=yf (by omega);have e2:(p:Int)<=64*(d:Int)+(i:Int):=(by omega);have e3:decide (64*(d:Int)+(i:Int)<(p:Int)+(L:Int))=false:=zK (by omega);have e4:¬64*(d:Int)+(i:Int)<(p:Int)+(L:Int):=(by omega);go_wp2;go_roundw;case rel=>exact⟨i+1,_,by omega,by go_num,aF,I⟩
         case measure=>simp[intOf];omega
        .have e1:decide ((p:Int)<=64*(d:Int)+(i:Int))=false:=zK (by omega);have e2:¬(p:Int)<=64*(d:Int)+(i:Int):=(by omega);go_wp2;go_roundw;case rel=>exact⟨i+1,_,by omega,by go_num,aF,I⟩
         case measure=>simp[intOf];omega
      .obtain rfl:i=64:=(by omega);have aR:su wr w (.slice (some ⟨g,0,none⟩) 64 bi) (sX D0 Dt p d 64):=⟨g,bi,cu,rfl,by rw[VM,Y.o],aA.o.2,zr E.o.size aA.o.1,J.o.1,J.o.2.1⟩;have bD:Below w w wr:=E.o.trans (I.o.mono E.o.size);have cG:=bg.o.below I.o;have cn:f<aj.heap.size:=xL aN.o;have cn:f<aj.heap.size:=xL aN.o;have cU:=Lib.hid (LY H.o bD cG f {X with P:=A.P,s:=(R:Int)} N j O (we I.o aN.o) (xT.below bV.o I.o) ⟨zu ae.o,bk.o.2.2.2.1,zr ah.o.size ae.o⟩ d bv (by show A.P.length<=8;have:=Z.o;omega) dr.o bM.o p' o' b5.o _ (sX D0 Dt p d 64) aR (fun b M S=>by injection M with M;have bJ:g=b:=M;have:=bg.o.fin b S;have:=aA.o.1;omega) ci.o);clear aR bD cG i1 i2;go_wp2_with fail
       refine cU.o.mono ?_;rintro e aY ⟨rfl,T2,g2,c2,bF,u1,u2,u3,u4,⟨u5,u6,u7⟩,d1,c0,u9⟩;have du:Hid (∃N O,FG w w1 F T U gf f {(tx0 s).wow (wrtU s (tx0 s) Dt p k0 C (r+1)).ow with put:=(wrtU s (tx0 s) Dt p k0 C (r+1)).put} #[X.k,X.m,X.u,X.g,R,X.l,X.up,.slice N j O] (.slice N j O) aY/\vQ aY (.slice N j O) (wrtU s (tx0 s) Dt p k0 C (r+1)).P):=by
        rw[ds.o];obtain⟨v1,v2,v3,v4,v5⟩:=bk.o;have ca:w1.heap.size<=wr.heap.size:=zr v1.size I.o.size;refine⟨some ⟨g2,0,none⟩,c2,⟨⟨T2,bF,fun r hr=>?_,fun r hr=>u2 r (v3 r hr),fun S=>?_,fun b M=>?_⟩,?_,?_⟩,?_⟩
        .rcases u1 r hr with B|B
         .exact v2 r B
         .exact zu (zr ca B)
        .rcases u1 f S with B|B
         .exact v4 B
         .exact yb v5 (xM (zr I.o.size B))
        .injection M with M;have bJ:g2=b:=M;rw[<-bJ];exact⟨zr ca u5,u6⟩
        .have:=u4;rw[show A.P.length=j from Z.o]at this;exact this
        .refine (v1.step (yK.of_below I.o)).trans u3 fun r hr=>?_;rcases hr with hr|hr
         .exact v2 r hr
         .exact zu (by rw[hr];exact ae.o)
        .have bB:(A.P.set d p').length=j:=(by rw[xG,Z.o]);refine⟨by simp[ints,Z.o],zu ⟨g2,0,c2,by rw[bB],fun r u hr=>?_⟩⟩;rw[yL,zC c0,<-zP];have cA:r<A.P.length:=(by have:=(zy.1 hr).1;simpa[ints]using this);have h3:(d1.toList.take A.P.length)[r]?=some u:=by rw[u9];exact hr
         rwa [zI,ze cA]at h3
       clear bF u1 u2 u3 u4 u5 u6 u7 c0 u9;go_wp2;go_roundw;case rel=>exact⟨r+1,by omega,congrArg (Value.int .i64) (by have:=V.o;omega),du⟩
       case measure=>simp[intOf];omega
    .obtain rfl:r=n1:=(by omega);obtain rfl:A=y:=(by rw[<-bx.o];exact dV.o);have ay:¬(d:Int)<=((p:Int)+(L:Int)-1) / 64:=(by have B:=V.o;have h2:=ak.o;have h3:=aI.o;have h4:=aG.o;omega);have bu:decide ((d:Int)<=((p:Int)+(L:Int)-1) / 64)=false:=zK ay;have aq:jb (fun r=>F r\/T' r) {X with P:=A.P,s:=(R:Int)} wr N j O:=fY aw fun b M _ hG=>by
      obtain⟨b1,b2⟩:=t4 b M;rcases hG with hG|hG
      .have B:=cF.o b hG;have:=ah.o.size;omega
      .exact b2 hG
     have bq:TxAt wr w F U (gf,()) {(tx0 s).wow A.ow with put:=A.put} T':=am.outer fun r _ hr=>zt hr;have aP:=lI bq i hi {X with P:=A.P,s:=(R:Int)} N j O aq (by show (0:Nat)<900;omega);have d2:Hid (Calls prog 37 #[(U,()),.int .i64 ((i:Int)+1),.agg #[X.k,X.m,X.u,X.g,R,X.l,X.up,(N,j,O)]] wr
      (fun e w'=>e=.returned (.tuple #[])/\vS w F U (gf,()) XT T' wr w')):=by
      have e:XT={({(tx0 s).wow A.ow with put:=A.put}:Tx) with nodes:=({(tx0 s).wow A.ow with put:=A.put}:Tx).nodes.set i {X with P:=A.P,s:=(R:Int)},dirty:=putZ ({(tx0 s).wow A.ow with put:=A.put}:Tx).dirty ((i:Int)+1) (.bool true)}:=(by rw[<-b8.o];unfold wrtT wrtP;rw[cw.o,bX.o,HL.o,show max (sN:Int) ((p+L:Nat):Int)=(R:Int) by have:=bN.o;omega];rfl);rw[e];exact aP
     obtain⟨r0,r1,r2,r3,r4,r5,r6,r7⟩:=uI au;have dJ:=Lib.hid bq;have E:Hid (Below w w wr):=ah.o.trans (a7.to_below a9.o.new ah.o.size);clear am t1 t2 t3 t4 aw a7 aq bq aP a0 aJ br ab;go_wp2_with fail
     refine d2.o.mono ?_;rintro e w9 ⟨rfl,d9⟩;have d5:=Lib.hid (d9.old E.o dJ.o);obtain⟨T9,t9,_⟩:=d9;have d6:=Lib.hid (aS.o w9 U T9 d5.o t9);clear t9 r0 r1 r2 r3 r4 r5 r6 r7;go_wp2_with fail
     refine d6.o.mono ?_;rintro e aY ⟨rfl,cb⟩;have cH:=Lib.hid cb;clear cb;by_cases he:ee=0
     .subst he;have B:=av.o;rw[ze rfl]at B;injection B with B h2;subst B h2;go_wp2;go_ret2;exact⟨rfl,cH.o⟩
     .have eW:(ee==0)=false:=(by simpa using he);have B:=av.o;rw[zb he]at B;injection B with B h2;subst B h2;go_wp2;go_ret2;exact⟨rfl,cH.o⟩
theorem VH (v:Value) (w:World):Calls prog 41 #[v,()] w (fun e w'=>e=.returned (.bool false)/\w=w'):=by
 go_enter func41,ntmps41
 go_wp2;go_ret;simp
theorem Xe (v:Value) (w:World):Calls prog 30 #[v,()] w (fun e w'=>e=.returned (4:Int)/\w=w'):=by
 have a:=Lib.hid (VH v w);go_enter lA,nP;go_wp2_with fail
 refine a.o.mono ?_;rintro e b ⟨rfl,rfl⟩;go_wp2;go_ret;simp
theorem KH (w:World) (n:Int) (p:Nat) (v:Value) (e:Int) (g:e=4\/e=12) (f:Calls prog 30 #[(gf,()),n] w (fun y w'=>y=.returned e/\w=w')):
 Calls prog 10 #[(gf,()),n,p,v] w (fun y w'=>y=.returned (.tuple #[(),e])/\w=w'):=by
 have a:=Lib.hid f;have c:decide ((p:Int)<0)=false:=zK (by omega);have d:¬((p:Int)<0):=by omega
 clear f;rcases g with rfl|rfl;all_goals
  go_enter qH,rG
  go_wp2_with fail
  refine a.o.mono ?_;rintro e b ⟨rfl,rfl⟩;go_wp2;go_ret2;exact⟨rfl,rfl⟩
theorem MD (w:World) (n:Int) (p:Nat) (j:Option Addr) (k:Nat) (l:p<=512) (i:Calls prog 30 #[(gf,()),n] w (fun y w'=>y=.returned ()/\w=w')):
 Calls prog 10 #[(gf,()),n,p,.slice j 0 k] w (fun y w'=>y=.returned (.tuple #[(),()])/\w=w'):=by
 have a:=Lib.hid i;have c:decide ((p:Int)<0)=false:=zK (by omega);have d:¬((p:Int)<0):=by omega
 have f:decide ((512:Int)<(p:Int))=false:=zK (by omega);have h:¬((512:Int)<(p:Int)):=by omega
 have g:¬(512<p):=by omega
 clear i;go_enter qH,rG;go_wp2_with fail
 refine a.o.mono ?_;rintro e b ⟨rfl,rfl⟩;go_wp2;go_ret2;exact⟨rfl,rfl⟩
theorem Ie (w:World) (n:Int) (p:Nat) (r:Option Addr) (L s:Nat) (u:(L:Int)<1000000000) (q:L=0\/512<p+L) (v:(p:Int)<1000000000) (t:Calls prog 30 #[(gf,()),n] w (fun y w'=>y=.returned ()/\w=w')):
 Calls prog 10 #[(gf,()),n,p,(r,L,s)] w (fun y w'=>y=.returned (.tuple #[(),.int .i64 (if 512<p+L then 2 else 0)])/\w=w'):=by
 have b:=Lib.hid t;have h:decide ((p:Int)<0)=false:=zK (by omega);have j:¬((p:Int)<0):=by omega
 have g:=zW (512-(L:Int));clear t;by_cases k:512<L
 .have c:decide ((512:Int)<(L:Int))=true:=yf (by omega);have d:((512:Int)<(L:Int)):=by omega
  rw[ze (by omega)];clear q;go_enter qH,rG;go_wp2_with fail
  refine b.o.mono ?_;rintro e i ⟨rfl,rfl⟩;go_wp2;go_ret2;exact⟨rfl,rfl⟩
 .have c:decide ((512:Int)<(L:Int))=false:=zK (by omega);have d:¬((512:Int)<(L:Int)):=by omega
  by_cases f:512<p+L
  .have l:decide (512-(L:Int)<(p:Int))=true:=yf (by omega);have m:(512-(L:Int)<(p:Int)):=(by omega);rw[ze f];clear q;go_enter qH,rG;go_wp2_with fail
   refine b.o.mono ?_;rintro e i ⟨rfl,rfl⟩;go_wp2;go_ret2;exact⟨rfl,rfl⟩
  .have a:L=0:=(by omega);rw[zb f];clear h j c d g q k;subst a;exact MD w n p r s (by omega) b.o
structure kj (s:Fs) (i p:Nat) (Dt:List Int):Prop where
 pts:ng (s.nodes.getD i zN).P s.k
 len:(s.nodes.getD i zN).P.length<=8
 sz:0<=(s.nodes.getD i zN).s/\(s.nodes.getD i zN).s<=512
 run:rN s (wrtT s i (s.nodes.getD i zN) p Dt)
theorem Kg (h:FsAt w gf s F a) (i:Nat) (A:i<32) (p:Nat) (C:p<1000000000) (v:Value) (Dt:List Int) (B:tQ w v Dt) (D:Dt.length<1000000000)
 (z:(s.nodes.getD i zN).k=1->p+Dt.length<=512->0<Dt.length->kj s i p Dt):
 Calls prog 10 #[(gf,()),.int .i64 ((i:Int)+1),p,v] w
  (fun e w'=>e=.returned (.tuple #[.int .i64 (wrtM s i p Dt).1.1,.int .i64 (wrtM s i p Dt).1.2])/\uk w gf (wrtM s i p Dt).2 F a w'):=by
 obtain⟨N,m⟩:=zD (s.nodes.getD i zN);have g:s.nodes[i]?=some N:=by rw[<-m.o];exact mu (by rw[h.len];exact A)
 have d:=gU h i A N g;unfold wrtM;rw[m.o]at z ⊢;by_cases u:N.k=0
 .rw[ze u]at d ⊢;exact (KH w _ p v 4 (zt rfl) d).mono fun e w' ⟨b,c⟩=>⟨b,c▸uk.same h zB⟩
 .rw[zb u]at d ⊢;by_cases b:N.k=1
  .rw[ze b]at d;rw[zb (fun y=>y b)];by_cases c:512<p+Dt.length
   .rw[ze c];obtain⟨l,j,f⟩:=mH B.1 Dt.length rfl;subst f;have:=Ie w _ p l Dt.length j (by omega) (zu c) (by omega) d;rw[ze c]at this;exact this.mono fun e w' ⟨b,c⟩=>⟨b,c▸uk.same h zB⟩
   .rw[zb c];by_cases n:Dt.length=0
    .rw[ze n];obtain⟨l,j,f⟩:=mH B.1 Dt.length rfl;subst f;have:=Ie w _ p l Dt.length j (by omega) (zt n) (by omega) d;rw[zb c]at this;exact this.mono fun e w' ⟨b,c⟩=>⟨b,c▸uk.same h zB⟩
    .rw[zb n];obtain⟨x,q,r,t⟩:=z b (by omega) (by omega);rw[m.o]at x q r t;exact NH h i A N g b x q r p v Dt B (by omega) (by omega) t
  .rw[zb b]at d;rw[ze b];exact (KH w _ p v 12 (zu rfl) d).mono fun e w' ⟨b,c⟩=>⟨b,c▸uk.same h zB⟩
theorem PZ (w:World) (p:Nat) (v:Value):
 Calls prog 10 #[(gf,()),(),p,v] w (fun y w'=>y=.returned (.tuple #[(),(4:Int)])/\w=w'):=KH w 0 p v 4 (zt rfl) (Xe _ w)
