import Derived.Test.YtpcedcnjofbgjaaGreatDoorKA20
set_option maxHeartbeats 0
set_option linter.all false
set_option maxRecDepth 100000
namespace Go.Proofs.YtpcedcnjofbgjaaGreatDoor
open Go.Proofs.Tryz Go.RowKit
variable {B gf gt i:Nat} {D:List Int} {F T:Nat->Prop} {a:Addr} {fp:Value} {s:Fs} {w w0:World} {y:Uw}
def Tx.leaX (x:Tx) (s:Fs) (i:Nat) (name:ByteArray):Tx:=if hasE (x.dirD s i) name=true then x.fillX s.k i (x.nodes.getD i zN) (layD (qu (x.dirD s i) name)) else x
def Rp (N:Pn):Pn:={N with l:=N.l-1}
def Tx.dropX (x:Tx) (s:Fs) (n:Nat):Tx:=(x.setX n (Rp (x.nodes.getD n zN))).freeX s n (Rp (x.nodes.getD n zN))
structure RP (x:Tx) (s:Fs) (n:Nat):Prop where
 lt:n<32
 l:0<(x.nodes.getD n zN).l/\(x.nodes.getD n zN).l<=200
 P:(x.nodes.getD n zN).P.length<=8
 h:0<=(getZ s.held ((n:Int)+1)).getD 0
 g:x.gone.length<=900
 d:x.dirty.length<890
theorem ju {l:List Pn} (h:i<l.length):l[i]?=some (l.getD i zN):=by rw[zt,zk h];rfl
theorem iy {x:Tx} (f:FsAt w0 gf s F a) (j:Below w0 w0 w) (h:TxAt w w0 F gt (gf,()) x T) (n) (c:RP x s n):
 Calls prog 62 #[(gt,()),(n+1:Int)] w (ρ (.tuple #[]) λw'=>sZ w0 F gt (gf,()) (x.dropX s n) T w w'):=
 Kh f j h (λi b=>zr (f.fin i b) j.size) n c.lt _ (ju (by rw[h.len];exact c.lt)) c.l c.h c.P c.g c.d _ rfl
theorem RB {x:Tx} (c:FsAt w0 gf s F a) (d:Below w0 w0 w) (h:TxAt w w0 F gt (gf,()) x T) (f:oa x) (i) (g:DirT x s i (x.nodes.getD i zN) (x.dirD s i)) (name):
 Calls prog 61 #[(gt,()),(i+1:Int),.string name] w (ρ (.tuple #[]) λw'=>sZ w0 F gt (gf,()) (x.leaX s i name) T w w'):=
 El c d h (λi b=>zr (c.fin i b) d.size) f i _ _ g name
theorem DirS.tx {X:Pn} (h:DirS s i X D) (c:s.k<=256):(tx0 s).nodes.getD i zN=X/\(tx0 s).dirD s i=D/\DirT (tx0 s) s i ((tx0 s).nodes.getD i zN) ((tx0 s).dirD s i):=by
 have e:(tx0 s).nodes.getD i zN=X:=by show s.nodes.getD i zN=X;rw[zt,h.nd];rfl
 have a:(tx0 s).dirD s i=D:=by
  rw[Tx.dirD,e];have:secT (tx0 s) s=secE s:=by funext n;rfl
  rw[this,h.by_]
 refine⟨e,a,?_⟩;rw[e,a];exact⟨h.lt,h.nd,Ql h.pts c,λp b=>⟨(h.pts p b).1,by have:=(h.pts p b).2;show p<=256;omega⟩,h.len,h.sz,by rw[<-a];rw[Tx.dirD,e],h.byte,h.ok⟩
theorem SS:oa (tx0 s):=⟨by show (256:Int)<=256;omega,by show (256:Int)<900000;omega,yh _,by show (0:Nat)<800;omega,by show (0:Nat)<890;omega⟩
def unlM (s:Fs) (i:Nat) (D:List Int) (name:ByteArray):Int×Fs:=
 let r:=rI D name
 if r.2.2=0 then
  let n:=(r.1-1).toNat
  let N:=s.nodes.getD n zN
  if N.k=2/\0<N.s then (13,s) else (endE s (((tx0 s).leaX s i name).dropX s n),endS s (((tx0 s).leaX s i name).dropX s n))
 else (r.2.2,s)
structure Ys (s:Fs) (i n:Nat) (name:ByteArray):Prop where
 drop:RP ((tx0 s).leaX s i name) s n
 run:P6 s (((tx0 s).leaX s i name).dropX s n)
theorem SL {name:ByteArray} (d:oB D=true) (h:(rI D name).2.2=0):1<=(rI D name).1/\(rI D name).1<=32:=by let⟨m,a,c,_⟩:=OS 7 0 0 h;rw[show (rI D name).1=(rdE D m).2 from c];exact (kK (((qO _).1 (su d).2.1).2.1 (rdE D m) (by unfold outD;exact yd.2 ⟨m,(Dr (by have:=(ND D).1 d;omega) m a),rfl⟩))).2
theorem Xq (h:FsAt w gf s F a) (i) (X) (D) (hd:DirS s i X D) (name) (aq:tM name=true)
 (aa:(rI D name).2.2=0->¬((s.nodes.getD ((rI D name).1-1).toNat zN).k=2/\0<(s.nodes.getD ((rI D name).1-1).toNat zN).s)->Ys s i ((rI D name).1-1).toNat name):
 Calls prog 37 #[(gf,()),(i+1:Int),.string name] w
  (ρ (.int .i64 (unlM s i D name).1) λw'=>pW w gf (unlM s i D name).2 F a w'):=by
 have H:=za h;have B:=za (Pq h i X D hd name aq);have A:=za aa;have d:Hid ((rI D name).2.2=0->1<=(rI D name).1/\(rI D name).1<=32):=SL hd.ok;have y:Hid ((rI D name).2.2=0\/(rI D name).2.2=4/\(rI D name).1=0):=P1 (D:=D) (n:=D.length / 16) (name:=name) 7 0 0;have ae:=za (hd.tx h.k1);have O:=za h.len;obtain⟨R,HR⟩:=zD (unlM s i D name);rw[HR.o];obtain⟨U,Y⟩:=R;obtain⟨⟨ri,rl,rr⟩,Hr⟩:∃r,Hid (rI D name=r):=⟨rI D name,za rfl⟩;rw[Hr.o]at B A d y;have G:=HR;unfold unlM at G;rw[Hr.o]at G;clear h hd aa;go_enter func37,ntmps37;go_wp2_with fail
 refine B.o.mono ?_;rintro e Z ⟨rfl,S⟩;have f:=za S;clear S;rcases y.o with ak|⟨ao,a4⟩;case inr=>
  obtain rfl:rr=4:=ao;have c:Hid (U=4/\Y=s):=by have b:=G.o;rw[zb (by decide)]at b;injection b with b z;exact⟨b.symm,z.symm⟩
  go_wp2;go_ret;exact⟨by rw[c.o.1];rfl,by rw[c.o.2];exact pW.same H.o f.o⟩
 obtain rfl:rr=0:=ak;have ad:=(d.o rfl).1;have ab:=(d.o rfl).2;obtain⟨n,hn⟩:∃n:Nat,ri=(n:Int)+1:=⟨(ri-1).toNat,by omega⟩;have p:n<32:=by omega
 have E:(ri-1).toNat=n:=by omega
 have t:Hid (¬((s.nodes.getD n zN).k=2/\0<(s.nodes.getD n zN).s)->Ys s i n name):=by have b:=A.o rfl;rw[E]at b;exact b
 obtain⟨N,HN⟩:=zD (s.nodes.getD n zN);have Q:(if N.k=2/\0<N.s then (13,s) else (endE s (((tx0 s).leaX s i name).dropX s n),endS s (((tx0 s).leaX s i name).dropX s n)))=(U,Y):=by have b:=G.o;rw[ze rfl]at b;rw[E,HN.o]at b;exact b
 have P:=za Q;rw[HN.o]at t;have L:s.nodes[n]?=some N:=by rw[<-HN.o];exact ju (by rw[O.o];exact p)
 obtain⟨gn,on,cn,V,yn,W,K,ac,e0,e1,e2,e3,e4,e5,e6,e7,_⟩:=sx (H.o.below f.o) n p N L;have i1:IntKind.i64.wrap (n+1-1)=n:=by rw[zM _ (by omega)];omega
 have ap:(n:Int)<32:=by omega
 subst hn;clear Q L E ad ab d y A G B;have x:Hid (Below w w (Z.alloc (.cells #[N.k,N.m,N.u,N.g,N.s,N.l,N.up,(V,yn,W)] 102))):=f.o.alloc f.o.size _;obtain⟨m0,m1,m2,m3,m4,m5,m6,m7⟩:=ug (zO Z (.cells #[N.k,N.m,N.u,N.g,N.s,N.l,N.up,(V,yn,W)] 102));by_cases q:N.k=2/\0<N.s
 .have e0:(N.k==2)=true:=by simp[q.1]
  have e9:=zX q.2;have c:Hid (U=13/\Y=s):=by have b:=P.o;rw[ze q]at b;injection b with b z;exact⟨b.symm,z.symm⟩
  clear q;go_wp2;go_ret;exact⟨by rw[c.o.1];rfl,by rw[c.o.2];exact pW.same H.o x.o⟩
 have M:=za (t.o q);have c:Hid (U=endE s (((tx0 s).leaX s i name).dropX s n)/\Y=endS s (((tx0 s).leaX s i name).dropX s n)):=by have b:=P.o;rw[zb q]at b;injection b with b z;exact⟨b.symm,z.symm⟩
 have v:¬N.k=2\/(N.k=2/\¬0<N.s):=by
  by_cases b:N.k=2
  .exact zw ⟨b,λz=>q ⟨b,z⟩⟩
  .exact zu b
 have j:=za (H.o.below x.o);have ah:=za (tH j.o);clear q;rcases v with I|⟨I,d1⟩
 case' inl=>
  have e8:(N.k==2)=false:=by simpa using I
  clear I
 case' inr=>
  have e8:(N.k==2)=true:=by simp[I]
  have e9:=zJ d1;clear I d1
 all_goals
  go_wp2_with fail
  refine ah.o.mono ?_;rintro e w4 ⟨gt,T,rfl,C,hT⟩;have an:=za C;have HT:Hid (TxAt w4 (Z.alloc (.cells #[N.k,N.m,N.u,N.g,N.s,N.l,N.up,(V,yn,W)] 102)).heap.size F gt (gf,()) (tx0 s) T):=hT;generalize Z.alloc (.cells #[N.k,N.m,N.u,N.g,N.s,N.l,N.up,(V,yn,W)] 102)=w3 at *
  have au:=za (RB j.o C HT.o SS i ae.o.2.2 name);clear C hT K ac e0 e1 e2 e3 e4 e5 e6 e7 m0 m1 m2 m3 m4 m5 m6 m7;go_wp2_with fail
  refine au.o.mono ?_;rintro e w5 ⟨rfl,d5⟩;have J:=za (d5.old an.o HT.o);obtain⟨T5,t5,u5,v5,k5⟩:=d5;have ag:=za (iy j.o J.o t5 n M.o.drop);have af:=za t5;clear t5 u5 v5 k5;go_wp2_with fail
  refine ag.o.mono ?_;rintro e w6 ⟨rfl,d6⟩;have aj:=za (d6.old J.o af.o);obtain⟨T6,t6,u6,v6,k6⟩:=d6;have al:=za (kP j.o aj.o t6 M.o.run);clear t6 u6 v6 k6;go_wp2_with fail
  refine al.o.mono ?_;rintro e w7 ⟨rfl,d7⟩;have ai:=za (d7.after x.o);clear d7;go_wp2;go_ret;exact⟨by rw[c.o.1];rfl,by rw[c.o.2];exact ai.o⟩
theorem Tp (h:FsAt w gf s F a) (i) (X) (D) (K:DirS s i X D) (name) (J:tM name=true) (k m u g) (N:k=1\/k=2) (O:0<=m/\m<=511) (L:0<=u/\u<=255) (M:0<=g/\g<=255)
 (I:NC D name=0->∀n,Rx s=some n->Tk s i n (newP k m u g i) [] name):
 Calls prog 28 #[(gf,()),(i+1:Int),.string name,(k:Int),(m:Int),(u:Int),(g:Int)] w
  (ρ (.tuple #[.int .i64 (addM s i D name k m u g []).1.1,.int .i64 (addM s i D name k m u g []).1.2]) λw'=>pW w gf (addM s i D name k m u g []).2 F a w'):=by
 have b:=za (DF h i X D K name J k m u g (.slice none 0 0) [] ⟨⟨rfl,zu ⟨rfl,_,_,rfl⟩⟩,λq n c r=>by injection r with G z H;omega⟩ (by simp) (λq f=>by cases f) I);obtain⟨R,l⟩:=zD (addM s i D name k m u g []);rw[l.o]at b |-;have p:=za (jL u g L M w);obtain⟨A,B⟩:=O;have y:decide (m<0)=false:=zJ (by omega);have t:decide (511<m)=false:=zJ (by omega);have x:¬m<0:=by omega
 have E:¬511<m:=by omega
 clear h K L M I;go_enter func28,ntmps28;rcases N with rfl|rfl;all_goals
  go_wp2_with fail
  refine p.o.mono ?_;rintro e v ⟨rfl,rfl⟩;go_wp2_with fail
  refine b.o.mono ?_;rintro e C ⟨rfl,d⟩;have j:=za d;clear d;go_wp2;go_ret2;exact⟨rfl,j.o⟩
def ZK (N:Pn):Pn:={N with l:=N.l+1}
def lnkM (s:Fs) (i n:Nat) (D:List Int) (name:ByteArray):Int×Fs:=
 let N:=s.nodes.getD n zN
 if N.k=0\/N.l=0 then (4,s) else if N.k=2 then (12,s) else if NC D name≠0 then (NC D name,s) else if N.l=200 then (6,s) else
 let x:=(tx0 s).setX n (ZK N)
 if vA (x.dirD s i) (name,n+1)=0 then (endE s (x.entX s i (name,n+1)),endS s (x.entX s i (name,n+1))) else (vA (x.dirD s i) (name,n+1),s)
structure Ix (s:Fs) (i n:Nat) (name:ByteArray):Prop where
 dir:DirT ((tx0 s).setX n (ZK (s.nodes.getD n zN))) s i (((tx0 s).setX n (ZK (s.nodes.getD n zN))).nodes.getD i zN) (((tx0 s).setX n (ZK (s.nodes.getD n zN))).dirD s i)
 run:vA (((tx0 s).setX n (ZK (s.nodes.getD n zN))).dirD s i) (name,(n:Int)+1)=0->P6 s (((tx0 s).setX n (ZK (s.nodes.getD n zN))).entX s i (name,(n:Int)+1))
theorem Kz {n:Nat} {N:Pn}:oa ((tx0 s).setX n N):=⟨by show (256:Int)<=256;omega,by show (256:Int)<900000;omega,yh _,by show (0:Nat)<800;omega,by have:=pT ((n:Int)+1) (Value.bool true) ([]:List (Int×Value));show (putZ [] _ _).length<890;simp at this;omega⟩
theorem GV (h:FsAt w gf s F a) (i) (X) (D) (hd:DirS s i X D) (name) (ah:tM name=true) (n) (aa:n<32) (hl:0<=(s.nodes.getD n zN).l/\(s.nodes.getD n zN).l<=200)
 (af:(s.nodes.getD n zN).k≠0->(s.nodes.getD n zN).k≠2->(s.nodes.getD n zN).l≠0->(s.nodes.getD n zN).l≠200->NC D name=0->Ix s i n name):
 Calls prog 39 #[(gf,()),(i+1:Int),.string name,(n+1:Int)] w
  (ρ (.int .i64 (lnkM s i n D name).1) λw'=>pW w gf (lnkM s i n D name).2 F a w'):=by
 have H:=za h;have a5:=za h.len;have a0:=za (λW=>PZ name W);rw[ah]at a0;have ai:Hid (∀W,Below w w W->Calls prog 92 #[(gf,()),(i+1:Int),.string name] W (κ W (NC D name:Int))):=λW hW=>US (h.below hW) i X D hd name ah;have a9:Hid (NC D name=0\/NC D name=5):=by show _\/_;unfold NC;split<;>simp
 obtain⟨N,HN⟩:=zD (s.nodes.getD n zN);have O:s.nodes[n]?=some N:=by rw[<-HN.o];exact ju (by rw[a5.o];exact aa)
 have bd:=za O;rw[HN.o]at hl af;have a4:=za af;have aE:Hid (∀W,Below w w W->Calls prog 66 #[(gf,()),(n+1:Int)] W (λe w'=>e=.returned (.bool (decide (N.k≠0)))/\W=w')):=λW hW=>sU (h.below hW) n aa N O;have ad:Hid (∀W,Below w w W->∃gn on cn,W.cell? (gf,195)=some (.slice (some ⟨gn,on,none⟩) 32 cn)/\gn<W.heap.size/\W.cell? ⟨gn,on+n*8,none⟩=some (.int .i64 N.k)/\W.cell? ⟨gn,on+n*8+5,none⟩=some (.int .i64 N.l)):=λW hW=>by obtain⟨gn,on,cn,yq,yn,yc,f,E,e0,e1,e2,e3,e4,e5,_⟩:=sx (h.below hW) n aa N O;exact⟨gn,on,cn,f,E,e0,e5⟩
 obtain⟨R,HR⟩:=zD (lnkM s i n D name);rw[HR.o];obtain⟨re,rs⟩:=R;obtain⟨t,A⟩:=zD N.k;obtain⟨j,B⟩:=zD N.l;obtain⟨pe,ae⟩:=zD (NC D name);have HM:Hid ((if t=0\/j=0 then (4,s) else if t=2 then (12,s) else if pe≠0 then (pe,s) else if j=200 then (6,s) else if vA (((tx0 s).setX n (ZK N)).dirD s i) (name,n+1)=0 then (endE s (((tx0 s).setX n (ZK N)).entX s i (name,n+1)),endS s (((tx0 s).setX n (ZK N)).entX s i (name,n+1))) else (vA (((tx0 s).setX n (ZK N)).dirD s i) (name,n+1),s))=(re,rs)):=by show _=_;rw[<-HR.o,<-A.o,<-B.o,<-ae.o,<-HN.o];rfl
 rw[A.o,B.o,ae.o]at a4;rw[A.o]at aE;rw[A.o,B.o]at ad;rw[ae.o]at ai a9;rw[B.o]at hl;have i1:IntKind.i64.wrap (n+1-1)=n:=by rw[zM _ (by omega)];omega
 have bh:(n:Int)<32:=by omega
 have iw:=zW (j+1) (by omega);have bv:=za hl;clear h hd af O hl;have Z:∀(e) (W),Below w w W->(e,s)=(re,rs)->e=re/\pW w gf rs F a W:=λe W hW he=>by injection he with b h2;exact⟨b,by rw[<-h2];exact pW.same H.o hW⟩
 have d:=za Z;clear Z;obtain⟨gn,on,cn,f,E,e0,e5⟩:=ad.o w zB;go_enter func39,ntmps39;go_wp2_with fail
 refine (a0.o w).mono ?_;rintro e w0 ⟨rfl,rfl⟩;go_wp2_with fail
 refine (aE.o w zB).mono ?_;rintro e w0 ⟨rfl,rfl⟩;by_cases I:t=0
 .subst I;have p:=za (d.o 4 w zB (by have b:=HM.o;rw[ze (zu rfl)]at b;exact b));go_wp2;go_ret;exact⟨by rw[<-p.o.1];rfl,p.o.2⟩
 have ac:decide (t≠0)=true:=zX I;have J:=za I;rw[ac];by_cases M:j=0
 .subst M;have p:=za (d.o 4 w zB (by have b:=HM.o;rw[ze (zw rfl)]at b;exact b));clear I ac;go_wp2;go_ret;exact⟨by rw[<-p.o.1];rfl,p.o.2⟩
 have b9:(j==0)=false:=by simpa using M
 have C:=za M;clear I ac M;go_wp2_with fail
 refine (ai.o w zB).mono ?_;rintro e w1 ⟨rfl,aI⟩;have S:=za aI;clear aI f E e0 e5;obtain⟨gn,on,cn,f,E,e0,e5⟩:=ad.o w1 S.o;have az:∀W:World,((pe=5/\¬pe=0)\/pe=0):=λ_=>a9.o.elim (λh=>zw h) λh=>zu ⟨h,by omega⟩;have ax:=az w;clear az;rcases ax with⟨rfl,_⟩|rfl;all_goals
  by_cases z:t=2
  case' pos =>have p:=za (d.o 12 w1 S.o (by have b:=HM.o;rw[zb (λhc=>hc.elim J.o C.o),ze z]at b;exact b));have b2:(t==2)=true:=(by simp[z]);clear z;go_wp2;go_ret;exact⟨by rw[<-p.o.1];rfl,p.o.2⟩
 all_goals
  have b2:(t==2)=false:=by simpa using z
  have P:=za z;clear z;go_wp2_with fail
  refine (ai.o w1 S.o).mono ?_;rintro e w3 ⟨rfl,a2⟩;have v:=za (zi S.o a2);clear a2 f E e0 e5
 .have p:=za (d.o 5 w3 v.o (by have b:=HM.o;rw[zb (λhc=>hc.elim J.o C.o),zb P.o,ze (by decide)]at b;exact b));go_wp2;go_ret;exact⟨by rw[<-p.o.1];rfl,p.o.2⟩
 have V:=za (H.o.below v.o);have aX:=za (tH V.o);go_wp2_with fail
 refine aX.o.mono ?_;rintro e w4 ⟨gt,T,rfl,aG,hT⟩;have al:=za aG;have HT:Hid (TxAt w4 w3 F gt (gf,()) (tx0 s) T):=hT;have ag:=kN HT.o n aa N bd.o;rw[A.o,B.o]at ag;have aT:=za ag;clear aG hT ag;go_wp2_with fail
 refine aT.o.mono ?_;rintro e L ⟨q,K,c,rfl,ab,an⟩;have bg:=za ab;have U:=za an;by_cases x:j=200
 .have p:=za (d.o 6 (L.alloc (.cells #[t,N.m,N.u,N.g,N.s,j,N.up,(q,K,c)] 102)) ((zi (zi v.o al.o) U.o).alloc (zi (zi v.o al.o) U.o).size _) (by have b:=HM.o;rw[zb (λhc=>hc.elim J.o C.o),zb P.o,zb (by decide),ze x]at b;exact b));have a6:(j==200)=true:=by simp[x]
  have s5:=(ug (zO L (.cells #[t,N.m,N.u,N.g,N.s,j,N.up,(q,K,c)] 102))).2.2.2.2.2.1;clear x ab an;go_wp2;go_ret;exact⟨by rw[<-p.o.1];rfl,p.o.2⟩
 have a6:(j==200)=false:=by simpa using x
 have aZ:=za x;have G:=a4.o J.o P.o C.o x trivial;have ap:=G.dir;have aj:=G.run;rw[HN.o]at ap aj;have ba:=za ap;have aQ:=za aj;obtain⟨gb,aw⟩:=zD L.heap.size;have av:Hid ((L.alloc (.cells #[t,N.m,N.u,N.g,N.s,j,N.up,(q,K,c)] 102)).heap[gb]?=some (.cells #[t,N.m,N.u,N.g,N.s,j,N.up,(q,K,c)] 102)):=by rw[<-aw.o];exact zH
 have s5:=(ug av.o).2.2.2.2.2.1;have z5:(L.alloc (.cells #[t,N.m,N.u,N.g,N.s,j,N.up,(q,K,c)] 102)).frozen? (gb,5)=false:=zF av.o;have aV:Hid ((L.alloc (.cells #[t,N.m,N.u,N.g,N.s,.int .i64 (j+1),N.up,(q,K,c)] 102)).heap[L.heap.size]?=some (.cells #[t,N.m,N.u,N.g,N.s,.int .i64 (j+1),N.up,(q,K,c)] 102)):=zH;have y:Hid (Below L L (L.alloc (.cells #[t,N.m,N.u,N.g,N.s,.int .i64 (j+1),N.up,(q,K,c)] 102))):=zB.alloc zL _;obtain⟨m0,m1,m2,m3,m4,m5,m6,m7⟩:=ug aV.o;rw[<-aw.o]at s5 z5;have a1:=za (HT.o.below U.o);have Y:=Zi (a1.o.below y.o) n aa (ZK N) q K c (bg.o.below y.o) (by show (0:Nat)<900;omega);have e7:(Calls prog 65 #[(gt,()),((n:Int)+1:Int),.agg #[N.k,N.m,N.u,N.g,N.s,(N.l+1:Int),N.up,(q,K,c)]] _ _):=Y;rw[A.o,B.o]at e7;have aD:=za e7;have bc:=za (a1.o.below y.o);have ay:=za (zi (zi al.o U.o) y.o);clear x ab an G ap aj Y e7;go_wp2_with fail
 refine aD.o.mono ?_;rintro e w6 ⟨rfl,d6⟩;have aJ:sZ w3 F gt (gf,()) ((tx0 s).setX n (ZK N)) T _ w6:=d6;have Q:=za (aJ.old ay.o bc.o);obtain⟨T6,t6,u6,v6,k6⟩:=aJ;have aH:=za t6;have a8:=za (gT V.o Q.o t6 (λr hr=>zr (V.o.fin r hr) Q.o.size) Kz i _ _ ba.o (name,(n:Int)+1));clear t6 u6 v6 k6 d6 m0 m1 m2 m3 m4 m5 m6 m7 s5 z5;obtain⟨qe,Hq⟩:=zD (vA (((tx0 s).setX n (ZK N)).dirD s i) (name,(n:Int)+1));rw[Hq.o]at a8;have ao:=HM.o;rw[zb (λhc=>hc.elim J.o C.o),zb P.o,zb (by decide),zb aZ.o,Hq.o]at ao;have aA:=za ao;clear ao;go_wp2_with fail
 refine a8.o.mono ?_;rintro e w7 ⟨rfl,d7⟩;by_cases hq:qe=0;case neg=>
  rw[zb hq]at d7;have b0:(qe==0)=false:=by simpa using hq
  have b1:(qe != 0)=true:=by simpa using hq
  have ak:=za (d7.old Q.o aH.o);have p:=za (d.o qe w7 (v.o.trans (ak.o.mono v.o.size)) (by have b:=aA.o;rw[zb hq]at b;exact b));clear d7;go_wp2;go_ret;exact⟨by rw[<-p.o.1];rfl,p.o.2⟩
 subst hq;rw[ze rfl]at d7;have ak:=za (d7.old Q.o aH.o);obtain⟨T7,t7,u7,v7,k7⟩:=d7;have bb:=za (kP V.o ak.o t7 (aQ.o Hq.o));clear t7 u7 v7 k7;go_wp2_with fail
 refine bb.o.mono ?_;rintro e w8 ⟨rfl,d8⟩;have aO:=za (d8.after v.o);have aF:Hid (re=endE s (((tx0 s).setX n (ZK N)).entX s i (name,n+1))/\rs=endS s (((tx0 s).setX n (ZK N)).entX s i (name,n+1))):=by have b:=aA.o;rw[ze (by trivial)]at b;injection b with b h2;exact⟨b.symm,h2.symm⟩
 clear d8;go_wp2;go_ret;exact⟨by rw[aF.o.1];rfl,by rw[aF.o.2];exact aO.o⟩
def mN (old Dt:List Int) (p k:Nat):Nat->List Int
 | 0=>old
 | i+1=>if p<=64*k+i/\64*k+i<p+Dt.length then (mN old Dt p k i).set i (Dt.getD (64*k+i-p) 0) else mN old Dt p k i
theorem oW (old Dt) (p k):∀i,(mN old Dt p k i).length=old.length
 | 0=>rfl
 | i+1=>by
  unfold mN;split
  .rw[xT];exact oW old Dt p k i
  .exact oW old Dt p k i
def wrtU (s:Fs) (x:Tx) (Dt:List Int) (p k0:Nat) (st:Uw):Nat->Uw
 | 0=>st
 | j+1=>wrU s.k (wrtU s x Dt p k0 st j) (k0+j) (mN (sc {x.wow (wrtU s x Dt p k0 st j).ow with put:=(wrtU s x Dt p k0 st j).put} s (wrtU s x Dt p k0 st j).P (k0+j)) Dt p (k0+j) 64)
def WtIn (k:Nat) (y:Uw):Prop:=UwIn y/\∀p∈y.P,p<k\/(getZ y.put p).isSome=true
theorem wrU_wt {k:Nat} (i) (D) (e:k<=256) (h:WtIn k y):WtIn k (wrU k y i D)/\(wrU k y i D).ow.fk<=y.ow.fk+1:=by
 let⟨a,b⟩:=IB i D e h.1;refine⟨⟨a,λp d=>?_⟩,b⟩;show p<(k:Int)\/(getZ (putZ y.put (ownU y.ow k (y.P.getD i 0)).1 D) p).isSome=true;by_cases c:p=(ownU y.ow k (y.P.getD i 0)).1
 .rw[c,NP];exact zw rfl
 .rw[qE D c];exact h.2 p ((ta d).resolve_right c)
theorem Cm {s:Fs} {x:Tx} {Dt:List Int} {p k0:Nat} {st:Uw} (j:s.k<=256) (h:WtIn s.k st):∀i,WtIn s.k (wrtU s x Dt p k0 st i)/\(wrtU s x Dt p k0 st i).ow.fk<=st.ow.fk+i/\(wrtU s x Dt p k0 st i).P.length=st.P.length/\(wrtU s x Dt p k0 st i).put.length<=st.put.length+i
 | 0=>⟨h,by show st.ow.fk<=_;omega,rfl,zL⟩
 | i+1=>by let⟨a,b,c,d⟩:=Cm (x:=x) (Dt:=Dt) (p:=p) (k0:=k0) j h i;unfold wrtU;let⟨e,f⟩:=wrU_wt (k0+i) (mN (sc {x.wow (wrtU s x Dt p k0 st i).ow with put:=(wrtU s x Dt p k0 st i).put} s (wrtU s x Dt p k0 st i).P (k0+i)) Dt p (k0+i) 64) j a;let⟨g,l⟩:=Ec s.k (wrtU s x Dt p k0 st i) (k0+i) (mN (sc {x.wow (wrtU s x Dt p k0 st i).ow with put:=(wrtU s x Dt p k0 st i).put} s (wrtU s x Dt p k0 st i).P (k0+i)) Dt p (k0+i) 64);exact⟨e,by omega,g.trans c,by omega⟩
theorem WtIn.pts {x:Tx} (h:WtIn s.k y) (b:y.ow.fk<=1000000):∀p∈y.P,PtR {x.wow y.ow with put:=y.put} s p:=λp a=>⟨(h.1.1 p a).1,uP (h.1.1 p a).2 b,h.2 p a⟩
theorem QO {F1:Nat->Prop} {x:Tx} (h:TxAt w B F gt fp x T) (d:FsAt w gf s F1 a) (P) (k) (f:∀p∈P,PtR x s p):(sc x s P k).length=64:=by
 unfold sc;split
 .simp
 .next c=>
  by_cases b:k<P.length
  .have e:P.getD k 0=P[k]:=(by rw[zt,zk b];rfl);rw[e];exact Wb h d (f _ (Nj b))
  .exact yi (by rw[zt,yW (by omega)];rfl) c
theorem Jb (cur:Array Value) (D) (n i) (x) (a:cur.toList.take n=u8s D) (_hi:i<n):(cur.setIfInBounds i (.int .u8 x)).toList.take n=u8s (D.set i x):=by rw[Cf,List.take_set,a];simp[u8s,uk]
def wrtY (s:Fs) (X:Pn) (p:Nat) (Dt:List Int):Uw:=wrtU s (tx0 s) Dt p (p / 64) ⟨(tx0 s).ow,[],X.P++List.replicate ((p+Dt.length+63) / 64-X.P.length) 0⟩ ((p+Dt.length-1) / 64+1-p / 64)
def wrtP (s:Fs) (X:Pn) (p:Nat) (Dt:List Int):Pn:={X with P:=(wrtY s X p Dt).P,s:=max X.s ((p+Dt.length:Nat))}
def wrtT (s:Fs) (i:Nat) (X:Pn) (p:Nat) (Dt:List Int):Tx:={((tx0 s).wow (wrtY s X p Dt).ow) with put:=(wrtY s X p Dt).put,nodes:=s.nodes.set i (wrtP s X p Dt),dirty:=putZ [] (i+1) (.bool true)}
def wrtM (s:Fs) (i p:Nat) (Dt:List Int):(Int×Int)×Fs:=
 let X:=s.nodes.getD i zN
 if X.k=0 then ((0,4),s) else if X.k≠1 then ((0,12),s) else if 512<p+Dt.length then ((0,2),s) else if Dt.length=0 then ((0,0),s) else
 (if endE s (wrtT s i X p Dt)=0 then (Dt.length,0) else (0,endE s (wrtT s i X p Dt)),endS s (wrtT s i X p Dt))
structure WA (w3:World) (gb:Nat) (X:Pn) (Pj:List Int) (q:Option Addr) (j c:Nat) (wq:World):Prop where
 row:wq.heap[gb]?=some (.cells #[X.k,X.m,X.u,X.g,X.s,X.l,X.up,(q,j,c)] 102)
 own:wq.ownsRow w3 3 1 (q,j,c) j (ints Pj)
 bel:yK (λi=>i=gb) w3 wq
theorem nK (h:FsAt w gf s F a) (i) (hi:i<32) (X) (hX:s.nodes[i]?=some X) (hk:X.k=1) (hP:Zm X.P s.k) (an:X.P.length<=8) (hs:0<=X.s/\X.s<=512)
 (p) (v) (Dt) (hv:mU w v Dt) (aA:0<Dt.length) (aB:p+Dt.length<=512) (hr:P6 s (wrtT s i X p Dt)):
 Calls prog 29 #[(gf,()),(i+1:Int),(p:Int),v] w
  (ρ (.tuple #[.int .i64 (if endE s (wrtT s i X p Dt)=0 then ((Dt.length:Int),0) else (0,endE s (wrtT s i X p Dt))).1,.int .i64 (if endE s (wrtT s i X p Dt)=0 then ((Dt.length:Int),0) else (0,endE s (wrtT s i X p Dt))).2]) λw'=>pW w gf (endS s (wrtT s i X p Dt)) F a w'):=by
 obtain⟨sN,hs⟩:∃sN:Nat,X.s=(sN:Int):=⟨X.s.toNat,by omega⟩;obtain⟨XT,b5⟩:=zD (wrtT s i X p Dt);rw[b5.o]at hr |-;obtain⟨y,cr⟩:=zD (wrtY s X p Dt);have hy:=cr.o;unfold wrtY at hy;have H:=za h;have cE:=za h.fin;have aZ:=mo h i hi X hX;rw[hk,zb (by omega),ze rfl]at aZ;have dR:=za aZ;have db:=za (tH h);obtain⟨L,HL⟩:=zD Dt.length;obtain⟨vp,vc,dG⟩:=Nv hv.1 L HL.o;subst dG;obtain⟨_,⟨h0,_⟩|⟨gv,ov,cv,dl,bd⟩⟩:=id hv.1
 .omega
 injection dl with e1 e2 e3;subst e1 e3;clear e2;have cX:gv<w.heap.size:=zy (bd 0 _ (Ch Dt 0 (by omega)));have df:Hid (∀(j) (hj),w.cell? ⟨gv,ov+j,none⟩=some (.int .u8 Dt[j])):=λj hj=>bd j _ (Ch Dt j hj);obtain⟨K,HK⟩:=zD ((p+Dt.length+63) / 64);have dw:Hid (∀W,Calls prog 71 #[(p+L:Int)] W λe w'=>e=.returned K/\W=w'):=λW=>by
  have:=P3 ((p:Int)+(L:Int)) W (by have:=HL.o;omega) (by have:=HL.o;omega);have e:jy (p+L)=K:=by unfold jy;rw[<-HK.o,<-HL.o];split<;>omega
  rw[e]at this;exact this
 rw[HK.o,HL.o]at hy;rw[HL.o]at aA aB |-;have eJ:K<=8:=by rw[<-HK.o,HL.o];omega
 obtain⟨k0,bl⟩:=zD (p / 64);obtain⟨k1,aH⟩:=zD ((p+L-1) / 64);rw[bl.o,aH.o]at hy;have aF:Hid (k0<=k1/\k1<K):=by constructor<;>(have B:=bl.o;have h2:=aH.o;have h3:=HK.o;rw[HL.o]at h3;omega)
 have HY:=za hy;have cW:=za (λ(W:World) (Z:Nat) (T:Nat->Prop) (hT:TxAt W w F Z (gf,()) (tx0 s) T)=>kN hT i hi X hX);have du:=za hP;have aS:Hid (∀(W) (Z) (T),Below w w W->TxAt W w F Z (gf,()) XT T ->
  Calls prog 46 #[(Z,())] W
   (ρ (endE s XT:Int) λw'=>pW w gf (endS s XT) F a w')):=λW Z T hW hT=>kP H.o hW hT hr
 obtain⟨ee,ds⟩:=zD (endE s XT);obtain⟨es,da⟩:=zD (endS s XT);rw[ds.o,da.o]at aS |-;obtain⟨ra,rb,ar⟩:∃ra rb,Hid ((if ee=0 then ((L:Int),(0:Int)) else (0,ee))=(ra,rb)):=⟨_,_,rfl⟩;rw[ar.o];have p1:decide ((p:Int)<0)=false:=zJ (by omega);have p2:¬((p:Int)<0):=by omega
 have p3:decide (512<(L:Int))=false:=zJ (by omega);have p4:¬(512<(L:Int)):=by omega
 have p5:=zW (512-L) (by omega);have p6:decide (512-L<(p:Int))=false:=zJ (by omega);have p7:¬(512-L<(p:Int)):=by omega
 have p8:((L:Int)==0)=false:=by simp;omega
 have p9:¬L=0:=by omega
 have pE:=zW (p+L) (by omega);have bV:=za hs;clear hk hs h aZ hX hP hv hy hr bd;go_enter func29,ntmps29;go_wp2_with fail
 refine dR.o.mono ?_;rintro e w1 ⟨rfl,rfl⟩;go_wp2_with fail
 refine db.o.mono ?_;rintro e w1 ⟨Z,T,rfl,cL,hT⟩;have af:=za cL;have a7:=za hT;have cz:=za (cW.o w1 Z T hT);clear cL hT;go_wp2_with fail
 refine cz.o.mono ?_;rintro e w2 ⟨q,n,c,rfl,am,cc⟩;have bk:=za cc;have dU:=za am;clear cc am;obtain⟨f,aO⟩:=zD w2.heap.size;have a6:Hid (Below w1 w1 (w2.alloc (.cells #[X.k,X.m,X.u,X.g,X.s,X.l,X.up,(q,n,c)] 102))):=bk.o.alloc bk.o.size _;have aV:Hid ((w2.alloc (.cells #[X.k,X.m,X.u,X.g,X.s,X.l,X.up,(q,n,c)] 102)).heap[f]?=some (.cells #[X.k,X.m,X.u,X.g,X.s,X.l,X.up,(q,n,c)] 102)):=by rw[<-aO.o];exact zH
 have cY:Hid (tP (w2.alloc (.cells #[X.k,X.m,X.u,X.g,X.s,X.l,X.up,(q,n,c)] 102)) (q,n,c) X.P):=uq.below dU.o.now (zB.alloc zL _);have dm:w1.heap.size<=f:=by rw[<-aO.o];exact bk.o.size
 have ad:=za dm;have bQ:Hid (TxAt (w2.alloc (.cells #[X.k,X.m,X.u,X.g,X.s,X.l,X.up,(q,n,c)] 102)) w (λi=>F i\/w1.heap.size<=i) Z (gf,()) (tx0 s) T):=(a7.o.outer λi hi hg=>hg.elim id λh=>yi h (tC hi)).below a6.o;have c7:(w2.alloc (.cells #[X.k,X.m,X.u,X.g,X.s,X.l,X.up,(q,n,c)] 102)).cell? (w2.heap.size,7)=some (.slice q n c):=(ug (zH)).2.2.2.2.2.2.2;go_wp2_with fail
 rw[aO.o];rw[aO.o]at c7;generalize (w2.alloc (.cells #[X.k,X.m,X.u,X.g,X.s,X.l,X.up,(q,n,c)] 102))=w3 at *
 refine (mK (q,n,c) X.P w3 cY.o (by omega)).mono ?_;rintro e w4 ⟨v4,rfl,aG,a0,_⟩;obtain⟨q4,c4,dK,_⟩:=rU aG;subst dK;obtain⟨m,Hm⟩:=zD X.P.length;rw[Hm.o]at aG an |-;have bh:=za (xV a0 aV.o);have eH:=za (bQ.o.below a0);have z7:w4.frozen? (f,7)=false:=zF bh.o;have eA:=(ug bh.o).2.2.2.2.2.2.2;have e6:=za (zi a6.o a0);have aU:=za aG;have bE:=za a0;have ag:Hid (f<w3.heap.size/\¬T f):=⟨xB aV.o,λR=>by have:=a7.o.fin f R;have:=ad.o;omega⟩;clear aG a0 c7;have bB:Hid (WA w3 f X X.P q4 m c4 (w4.setCell (f,7) (q4,m,c4))):=by
  have ao:yK (λi=>i=f) w4 (w4.setCell (f,7) (q4,m,c4)):=yK.setCell (F:=λi=>i=f) (p:=⟨f,7,none⟩) rfl _;refine⟨zT _ _ 7 _ _ _ bh.o,vE aU.o λb M=>ao.block b (aU.o.lt b M).2 (λR=>?_),?_⟩
  .have B:=(aU.o.lt b M).1;rw[R]at B;have:=ag.o.1;omega
  .exact (yK.of_below bE.o).step ao
 generalize e7:w4.setCell (f,7) (q4,m,c4)=w5 at *
 go_wp2;go_loopw [55] (λ_ wq=>∃(j:Nat) (N:Option Addr) (O:Nat),m<=j/\j<=max m K/\Hid (WA w3 f X (X.P++List.replicate (j-m) 0) N j O wq)) (λ_ wq=>100-lenV ((wq.cell? (f,7)).getD undef))
 .exact⟨m,q4,c4,zL,by omega,by rw[vQ,List.replicate_zero,yY];exact bB⟩
 .obtain⟨j,qj,cj,eC,e8,ae⟩:=hrel;have k7:=xX (ug ae.o.row).2.2.2.2.2.2.2;go_wp2_with fail
  refine vg (by kernel_rfl) (by kernel_rfl) ?_
  repeat (first
   | go_big_quiet_skip
   | (refine sG 71 #[.tmp 58] #[3] rfl rfl (λ_ _=>by kernel_rfl) #[.int .i64 ((p:Int)+(L:Int))] (by kernel_rfl) (.int .i64 (K:Int)) (λ_ _=>vY) (λw' _=>(dw.o w').mono λe w2 ⟨he,dE⟩=>⟨he,dE▸zB⟩) ?_;simp only[Act.put,zP,yf,yb])
   | (go_big_quiet_want;go_big_quiet_op;go_big_quiet_on))
  refine vn ?_;intro U c1;have aM:=za (us c1);have D:Hid (WA w3 f X (X.P++List.replicate (j-m) 0) qj j cj U):=⟨xV aM.o ae.o.row,tt ae.o.own aM.o,ae.o.bel.step (yK.of_below aM.o)⟩;obtain⟨bX,cC,bS,cm,bo,b4,ce,bW⟩:=ug D.o.row;have d3:=za (ug ae.o.row).2.2.2.2.2.2.2;clear k7 c1 ae aM;have cI:=za (xB D.o.row);by_cases eS:j<K
  .have bO:j<(K:Int):=(by omega);obtain⟨i0,b7,cw,bN,ci⟩:=yX kG;have dW:=za b7;have dJ:=za cw;have dF:=za bN;have dM:=za ci;clear b7 cw bN ci;have bD:(ints (X.P++List.replicate (j-m) 0))++[Value.int .i64 0]=ints (X.P++List.replicate (j+1-m) 0):=(by rw[show j+1-m=(j-m)+1 by omega,sQ,<-zR];simp[ints]);have d2:=za bD;have dX:=za (λo=>tt D.o.own ((xW U U).alloc zL o));have bz:=za D.o.bel.size;have ct:Hid (∀b,(Value.slice qj j cj).ownBlock=some b->w3.heap.size<=b):=λb M=>(D.o.own.lt b M).1;have dp:Hid (∀(w6) (o),(U.alloc o).grownBy w6 (Value.slice qj j cj).ownBlock->w6.heap[f]?=some (.cells #[X.k,X.m,X.u,X.g,X.s,X.l,X.up,(qj,j,cj)] 102)/\yK (λi=>i=f) w3 w6):=λw6 o hg=>by
    refine⟨?_,?_⟩
    .rw[hg.block f (by have:=cI.o;simp;omega) (λR=>by have:=ct.o f R.symm;have:=ag.o.1;omega),uW U o cI.o];exact D.o.row
    .exact (D.o.bel.step (yK.of_below (zB.alloc zL o))).trans (yK.grown (F:=λr=>w3.heap.size<=r) hg (λr hr=>ct.o r hr)) (λi hi=>zw hi)
   clear bD;go_wp2_with (at_builtin;refine yw _ rfl _ _ 33 rfl w3.heap.size 3 i0 (.int .i64 0) 1 8 qG dW.o dJ.o dF.o dM.o rfl (by decide) _ _ _ rfl (dX.o _) ⟨U.heap.size,0,none⟩ 1 1 [.int .i64 0] rfl rfl (xF (cs:=#[.int .i64 0]) (t:=3) (fr:=(0,0)) (zO U _)) (by simp[Value.oneCell']) (by unfold maxLen;omega) (by omega) (by have:=bz.o;simp;omega) ?_;intro v5 w6 G ax _;obtain⟨q5,c5,rfl,_⟩:=rU G;have aC:=za (dp.o w6 _ ax);have z6:w6.frozen? (f,7)=false:=zF aC.o.1;have c6:=(ug aC.o.1).2.2.2.2.2.2.2;have br:Hid (w6.ownsRow w3 3 1 (q5,(j+1),c5) (j+1) (ints (X.P++List.replicate (j+1-m) 0))):=(by show _;rw[<-d2.o];exact G);clear G ax)
   have b3:Hid (WA w3 f X (X.P++List.replicate (j+1-m) 0) q5 (j+1) c5 (w6.setCell (f,7) (q5,(j+1),c5))):=(by have ao:yK (λi=>i=f) w6 (w6.setCell (f,7) (q5,(j+1),c5)):=yK.setCell (F:=λi=>i=f) (p:=⟨f,7,none⟩) rfl _;refine⟨zT _ _ 7 _ _ _ aC.o.1,vE br.o λb M=>ao.block b (br.o.lt b M).2 (λR=>?_),aC.o.2.step ao⟩;have B:=(br.o.lt b M).1;rw[R]at B;have:=ag.o.1;omega);clear bX cC bS cm bo b4 ce bW;go_wp2;go_roundw;case rel=>exact⟨j+1,q5,c5,by omega,by omega,b3⟩
   case measure =>rw[(ug b3.o.row).2.2.2.2.2.2.2,d3.o];simp[lenV];omega
  .have bO:¬j<(K:Int):=(by omega);rw[bV.o]at bo;obtain⟨Q,bK⟩:=zD (max sN (p+L));have eL:max (sN:Int) (p+L)=Q:=(by have:=bK.o;omega);have dy:U.frozen? (f,4)=false:=zF D.o.row;go_wp2;obtain⟨n1,ah⟩:=zD (k1+1-k0);have dN:K-m=j-m:=(by omega);obtain⟨C,ac⟩:∃z:Uw,Hid ((⟨(tx0 s).ow,[],X.P++List.replicate (j-m) 0⟩:Uw)=z):=⟨_,za rfl⟩;have aa:C.P=X.P++List.replicate (j-m) 0:=(by rw[<-ac.o]);have dV:Hid (wrtU s (tx0 s) Dt p k0 C n1=y):=(by have B:=HY.o;rw[Hm.o,dN,ah.o,ac.o]at B;exact B);have cJ:Hid (C.P.length=j):=(by show _=_;rw[aa,zl,xt,Hm.o];omega);have dP:Hid (∀r,WtIn s.k (wrtU s (tx0 s) Dt p k0 C r)/\(wrtU s (tx0 s) Dt p k0 C r).ow.fk<=256+r/\(wrtU s (tx0 s) Dt p k0 C r).P.length=j/\(wrtU s (tx0 s) Dt p k0 C r).put.length<=r):=by
    intro r;have dS:WtIn s.k C:=by
     have bP:∀q∈C.P,0<=q/\q<s.k:=λq hq=>by
      rw[aa]at hq;rcases yN.1 hq with hq|hq
      .exact du.o q hq
      .have:=wO hq;have:=H.o.k0;omega
     have eN:=H.o.k1;have aI:C.ow.fk=256:=(by rw[<-ac.o];rfl);exact⟨⟨λq hq=>by have:=bP q hq;omega,by omega⟩,λq hq=>zu (bP q hq).2⟩
    obtain⟨a1,a2,a3,a4⟩:=Cm (x:=tx0 s) (Dt:=Dt) (p:=p) (k0:=k0) H.o.k1 dS r;refine⟨a1,?_,a3.trans cJ.o,?_⟩
    .rw[show C.ow.fk=256 by rw[<-ac.o];rfl]at a2;exact a2
    .rw[show C.put=[] by rw[<-ac.o]]at a4;simpa using a4
   have e9:j<=8:=(by omega);have eP:K<=j:=(by omega);have c3:Hid (∃N O,FG w w1 F T Z gf f {(tx0 s).wow (C).ow with put:=(C).put} #[X.k,X.m,X.u,X.g,Q,X.l,X.up,.slice N j O] (.slice N j O) (U.setCell (f,4) (.int .i64 Q))/\tP (U.setCell (f,4) (.int .i64 Q)) (.slice N j O) (C).P):=by
    have cB:yK (λi=>i=f) U (U.setCell (f,4) (.int .i64 Q)):=yK.setCell (F:=λi=>i=f) (p:=⟨f,4,none⟩) rfl _;have b9:=D.o.bel.step cB;have hx:({(tx0 s).wow C.ow with put:=C.put})=tx0 s:=(by rw[<-ac.o];rfl);rw[hx];refine⟨qj,cj,⟨⟨T,bQ.o.local (zw ad.o) ag.o.2 aV.o (by decide) b9,λ_ hi=>zu hi,λ_ hi=>hi,ag.o.2,λb M=>?_⟩,zT _ _ 4 _ _ _ D.o.row,(yK.of_below a6.o).trans b9 λi hi=>zw (by rw[hi];exact ad.o)⟩,?_⟩
    .have h2:=(D.o.own.lt b M).1;exact⟨zv a6.o.size h2,λR=>by have:=a7.o.fin b R;have:=a6.o.size;omega⟩
    .have B:tP U (qj,j,cj) C.P:=(by have:=uq.of_owns D.o.own;unfold tP;rw[cJ.o,aa];exact this);exact Pd B λb M hl=>cB.block b hl (λR=>by have h2:=(D.o.own.lt b M).1;rw[R]at h2;have:=ag.o.1;omega)
   clear bX cC bS cm bo b4 ce bW dy aa;generalize U.setCell (f,4) (.int .i64 (Q:Int))=w8 at *
   go_loopw [14] (λkv wq=>∃r:Nat,r<=n1/\kv=.int .i64 ((k0+r:Nat):Int)/\Hid (∃N O,FG w w1 F T Z gf f {(tx0 s).wow (wrtU s (tx0 s) Dt p k0 C r).ow with put:=(wrtU s (tx0 s) Dt p k0 C r).put} #[X.k,X.m,X.u,X.g,Q,X.l,X.up,.slice N j O] (.slice N j O) wq/\tP wq (.slice N j O) (wrtU s (tx0 s) Dt p k0 C r).P)) (λkv _=>100-(intOf kv).toNat)
   .exact⟨0,yh _,zQ (Value.int .i64) (by have:=bl.o;omega),c3⟩
   .obtain⟨aL,c0⟩:∃x,x=wr:=⟨_,rfl⟩;obtain⟨r,ex,rfl,bH⟩:=hrel;obtain⟨d,S⟩:=zD (k0+r);rw[S.o];have iE:=zW (p+L-1) (by omega);obtain⟨ay,aI,ab,bn⟩:=dP.o r;have eD:r<=8:=(by have h2:=ah.o;have h3:=aF.o;omega);obtain⟨A,bs⟩:=zD (wrtU s (tx0 s) Dt p k0 C r);rw[bs.o]at bH ay aI ab bn;obtain⟨N,O,⟨⟨T',aj,t1,t2,t3,t4⟩,ap,a5⟩,au⟩:=bH.o;by_cases c8:r<n1
    .have bL:d<8:=(by have B:=S.o;have h2:=ah.o;have h3:=aF.o;omega);have aw:d<=(p+(L:Int)-1) / 64:=(by have B:=S.o;have h2:=ah.o;have h3:=aH.o;omega);have bp:=zX aw;have bq:d<A.P.length:=(by have B:=aF.o;have h2:=S.o;have h3:=ah.o;omega);have bR:A.P.getD d 0=A.P[d]:=(by rw[zt,zk bq];rfl);obtain⟨p',o',G⟩:∃p' o',ownU A.ow s.k A.P[d]=(p',o'):=⟨_,_,rfl⟩;have av:∀q∈A.P,PtR {(tx0 s).wow A.ow with put:=A.put} s q:=ay.pts (by omega);have az:=af.o.trans (a5.to_below a7.o.new af.o.size);have aX:=H.o.below az;have bj:=za (R6 aj aX {X with P:=A.P,s:=(Q:Int)} N j O au d bL av (by show A.P.length<=8;omega));have V:=za (QO aj aX A.P d av);obtain⟨D0,bU⟩:=zD (sc {(tx0 s).wow A.ow with put:=A.put} s A.P d);rw[show (({X with P:=A.P,s:=(Q:Int)}:Pn).P)=A.P from rfl]at bj;have dr:Hid (wrtU s (tx0 s) Dt p k0 C (r+1)=⟨o',putZ A.put p' (mN D0 Dt p d 64),A.P.set d p'⟩):=(by show wrU s.k (wrtU s (tx0 s) Dt p k0 C r) (k0+r) (mN (sc {(tx0 s).wow (wrtU s (tx0 s) Dt p k0 C r).ow with put:=(wrtU s (tx0 s) Dt p k0 C r).put} s (wrtU s (tx0 s) Dt p k0 C r).P (k0+r)) Dt p (k0+r) 64)=_;rw[bs.o,S.o,bU.o];unfold wrU;rw[bR,G]);rw[bU.o]at bj V;obtain⟨r0,r1,r2,r3,r4,r5,r6,r7⟩:=ug ap;have be:=za aj;have aN:=za ap;have bT:=za au;have bg:Hid (yK T w1 wr/\(∀i,T' i->T i\/w1.heap.size<=i)/\(∀i,T i->T' i)/\¬T' f/\f<wr.heap.size):=⟨a5,t1,t2,t3,xB ap⟩;have E:=za az;have b0:=za G;have bJ:Hid (0<=A.P[d]/\A.P[d]<=1000000):=(by have B:=ay.1.1 _ (Nj bq);show 0<=A.P[d]/\A.P[d]<=1000000;omega);have dq:Hid (A.ow.fk<1000000):=(by show A.ow.fk<1000000;omega);have cf:Hid (A.put.length<900):=(by show A.put.length<900;omega);have Y:=za ab;clear aj t1 t2 t3 t4 ap au a5 G bR av az aX ay aI bn ab;go_wp2_with fail
     refine bj.o.mono ?_;rintro e w9 ⟨v9,rfl,g,bM,aD,cp,bf,cx,ba,ca⟩;rw[V.o]at cp ba bf;subst cp;have a9:=za bf;have dj:=za cx;have de:=za ba;have bF:=za ca;rw[<-c0]at bF a9 be aN bT bg E;clear bf cx ba ca r0 r1 r2 r3 r4 r5 r6 r7;go_wp2;go_loopw [86] (λiv wq=>∃(i:Nat) (cu:Array Value),i<=64/\iv=.int .i64 i/\Hid (wq.heap[g]?=some (.cells cu 5)/\cu.toList.take 64=u8s (mN D0 Dt p d i)/\cu.size=aD.size)/\Hid (Below aL aL wq)) (λiv _=>64-(intOf iv).toNat)
     .exact⟨0,aD,by omega,rfl,⟨dj.o,de.o,rfl⟩,bF.o⟩
     .obtain⟨i,cu,el,rfl,J,I⟩:=hrel;have i1:=zW (64*d) (by omega);have i2:=zW (64*d+i) (by omega);by_cases dk:i<64
      .have ej:(i:Int)<64:=(by omega);have dL:i<cu.size:=(by have B:=zQ List.length J.o.2.1;rw[Ni,wd,oW,V.o,ye]at B;omega);by_cases bI:p<=64*d+i/\64*d+i<p+L
       .obtain⟨aQ,ch⟩:=bI;have e1:decide (p<=64*d+(i:Int))=true:=zX (by omega);have e2:p<=64*d+(i:Int):=(by omega);have e3:decide (64*d+i<p+(L:Int))=true:=zX (by omega);have e4:64*d+i<p+(L:Int):=(by omega);obtain⟨r',bb⟩:=zD (64*d+i-p);have d7:r'<L:=(by have:=bb.o;omega);have aY:r'<Dt.length:=(by rw[HL.o];exact d7);have i3:IntKind.i64.wrap (64*d+i-p)=r':=(by rw[zM _ (by omega)];have:=bb.o;omega);have cd:=((E.o.trans (I.o.mono E.o.size)).cell (p:=⟨gv,ov+r',none⟩) cX).trans (df.o r' aY);have zg:wr.frozen? (g,i)=false:=zF J.o.1;have cg:=(zC J.o.1).trans (xx dL);obtain⟨dd,cA⟩:=zD (Dt[r']' aY);rw[cA.o]at cd;have aE:Hid ((wr.setCell (g,i) (.int .u8 dd)).heap[g]?=some (.cells (cu.setIfInBounds i (.int .u8 dd)) 5)/\(cu.setIfInBounds i (.int .u8 dd)).toList.take 64=u8s (mN D0 Dt p d (i+1))/\(cu.setIfInBounds i (.int .u8 dd)).size=aD.size):=by
         refine⟨zT _ _ i _ _ _ J.o.1,?_,by rw[xL];exact J.o.2.2⟩;have e:mN D0 Dt p d (i+1)=(mN D0 Dt p d i).set i dd:=by
          conv=>lhs;unfold mN
          rw[ze ⟨aQ,by rw[HL.o];exact ch⟩,bb.o,zt,zk aY,oH,cA.o]
         rw[e];exact Jb _ _ _ _ _ J.o.2.1 dk
        have dv:Hid (Below aL aL (wr.setCell (g,i) (.int .u8 dd))):=I.o.setCell (p:=⟨g,i,none⟩) a9.o.1 _;go_wp2;go_roundw
        .exact⟨i+1,_,by omega,by go_num,aE,dv⟩
        .simp[intOf];omega
       .have aE:Hid (wr.heap[g]?=some (.cells cu 5)/\cu.toList.take 64=u8s (mN D0 Dt p d (i+1))/\cu.size=aD.size):=by
         refine⟨J.o.1,?_,J.o.2.2⟩;have e:mN D0 Dt p d (i+1)=mN D0 Dt p d i:=by
          conv=>lhs;unfold mN
          rw[zb (by rw[HL.o];exact bI)]
         rw[e];exact J.o.2.1
        by_cases aQ:p<=64*d+i
        .have e1:decide (p<=64*d+(i:Int))=true:=zX (by omega);have e2:p<=64*d+(i:Int):=(by omega);have e3:decide (64*d+i<p+(L:Int))=false:=zJ (by omega);have e4:¬64*d+i<p+(L:Int):=(by omega);go_wp2;go_roundw
         .exact⟨i+1,_,by omega,by go_num,aE,I⟩
         .simp[intOf];omega
        .have e1:decide (p<=64*d+(i:Int))=false:=zJ (by omega);have e2:¬p<=64*d+(i:Int):=(by omega);go_wp2;go_roundw
         .exact⟨i+1,_,by omega,by go_num,aE,I⟩
         .simp[intOf];omega
      .obtain rfl:i=64:=(by omega);have aR:js wr w (.slice (some ⟨g,0,none⟩) 64 bM) (mN D0 Dt p d 64):=⟨g,bM,cu,rfl,by rw[oW,V.o],a9.o.2,zv E.o.size a9.o.1,J.o.1,J.o.2.1⟩;have bA:=E.o.trans (I.o.mono E.o.size);have cF:=be.o.below I.o;have cl:=xB aN.o;have cl:=xB aN.o;have cT:=za (Oo H.o bA cF f {X with P:=A.P,s:=(Q:Int)} N j O (xV I.o aN.o) (uq.below bT.o I.o) ⟨zw ad.o,bg.o.2.2.2.1,zv af.o.size ad.o⟩ d bq (by show A.P.length<=8;have:=Y.o;omega) dq.o bJ.o p' o' b0.o _ (mN D0 Dt p d 64) aR (λb M R=>by injection M with M;have bG:g=b:=M;have:=be.o.fin b R;have:=a9.o.1;omega) cf.o);clear aR bA cF i1 i2;go_wp2_with fail
       refine cT.o.mono ?_;rintro e aW ⟨rfl,T2,g2,c2,bC,u1,u2,u3,u4,⟨u5,u6,u7⟩,d0,cy,u9⟩;have dt:Hid (∃N O,FG w w1 F T Z gf f {(tx0 s).wow (wrtU s (tx0 s) Dt p k0 C (r+1)).ow with put:=(wrtU s (tx0 s) Dt p k0 C (r+1)).put} #[X.k,X.m,X.u,X.g,Q,X.l,X.up,.slice N j O] (.slice N j O) aW/\tP aW (.slice N j O) (wrtU s (tx0 s) Dt p k0 C (r+1)).P):=by
        rw[dr.o];obtain⟨v1,v2,v3,v4,v5⟩:=bg.o;have bY:=zv v1.size I.o.size;refine⟨some ⟨g2,0,none⟩,c2,⟨⟨T2,bC,λr hr=>?_,λr hr=>u2 r (v3 r hr),λR=>?_,λb M=>?_⟩,?_,?_⟩,?_⟩
        .rcases u1 r hr with B|B
         .exact v2 r B
         .exact zw (zv bY B)
        .rcases u1 f R with B|B
         .exact v4 B
         .exact yi v5 (xn (zv I.o.size B))
        .injection M with M;have bG:g2=b:=M;rw[<-bG];exact⟨zv bY u5,u6⟩
        .have:=u4;rw[show A.P.length=j from Y.o]at this;exact this
        .refine (v1.step (yK.of_below I.o)).trans u3 λr hr=>?_;rcases hr with hr|hr
         .exact v2 r hr
         .exact zw (by rw[hr];exact ad.o)
        .have b8:(A.P.set d p').length=j:=(by rw[xT,Y.o]);refine⟨by simp[ints,Y.o],zw ⟨g2,0,c2,by rw[b8],λr u hr=>?_⟩⟩;rw[yF,zC cy,<-zK];have c8:r<A.P.length:=(by have:=(zG.1 hr).1;simpa[ints]using this);have h3:(d0.toList.take A.P.length)[r]?=some u:=by rw[u9];exact hr
         rwa [zI,ze c8]at h3
       clear bC u1 u2 u3 u4 u5 u6 u7 cy u9;go_wp2;go_roundw
       .exact⟨r+1,by omega,zQ (Value.int .i64) (by have:=S.o;omega),dt⟩
       .simp[intOf];omega
    .obtain rfl:r=n1:=(by omega);obtain rfl:A=y:=(by rw[<-bs.o];exact dV.o);have aw:¬d<=(p+(L:Int)-1) / 64:=(by have B:=S.o;have h2:=ah.o;have h3:=aH.o;have h4:=aF.o;omega);have bp:=zJ aw;have am:TQ (λr=>F r\/T' r) {X with P:=A.P,s:=Q} wr N j O:=Q3 au λb M _ hG=>by
      obtain⟨b1,b2⟩:=t4 b M;rcases hG with hG|hG
      .have B:=cE.o b hG;have:=af.o.size;omega
      .exact b2 hG
     have bm:=aj.outer λr _ hr=>zu hr;have aP:=Zi bm i hi {X with P:=A.P,s:=(Q:Int)} N j O am (by show (0:Nat)<900;omega);have d1:Hid (Calls prog 65 #[(Z,()),(i+1:Int),.agg #[X.k,X.m,X.u,X.g,Q,X.l,X.up,(N,j,O)]] wr
      (ρ (.tuple #[]) λw'=>sZ w F Z (gf,()) XT T' wr w')):=by
      have e:XT={({(tx0 s).wow A.ow with put:=A.put}) with nodes:=({(tx0 s).wow A.ow with put:=A.put}).nodes.set i {X with P:=A.P,s:=Q},dirty:=putZ ({(tx0 s).wow A.ow with put:=A.put}).dirty (i+1) (.bool true)}:=(by rw[<-b5.o];unfold wrtT wrtP;rw[cr.o,bV.o,HL.o,show max (sN:Int) ((p+L:Nat):Int)=(Q:Int) by have:=bK.o;omega];rfl);rw[e];exact aP
     obtain⟨r0,r1,r2,r3,r4,r5,r6,r7⟩:=ug ap;have dI:=za bm;have E:=za (af.o.trans (a5.to_below a7.o.new af.o.size));clear aj t1 t2 t3 t4 au a5 am bm aP ay aI bn ab;go_wp2_with fail
     refine d1.o.mono ?_;rintro e w9 ⟨rfl,d9⟩;have d4:=za (d9.old E.o dI.o);obtain⟨T9,t9,_⟩:=d9;have d5:=za (aS.o w9 Z T9 d4.o t9);clear t9 r0 r1 r2 r3 r4 r5 r6 r7;go_wp2_with fail
     refine d5.o.mono ?_;rintro e aW ⟨rfl,bZ⟩;have cH:=za bZ;clear bZ;by_cases he:ee=0
     .subst he;have B:=ar.o;rw[ze rfl]at B;injection B with B h2;subst B h2;go_wp2;go_ret2;exact⟨rfl,cH.o⟩
     .have eW:(ee==0)=false:=(by simpa using he);have B:=ar.o;rw[zb he]at B;injection B with B h2;subst B h2;go_wp2;go_ret2;exact⟨rfl,cH.o⟩
theorem Pp (v) (w):Calls prog 66 #[v,()] w (λe w'=>e=.returned (.bool false)/\w=w'):=by
 go_enter func66,ntmps66
 go_wp2;go_ret;simp
theorem jN (v) (w):Calls prog 51 #[v,()] w (λe w'=>e=.returned (4:Int)/\w=w'):=by
 go_enter func51,ntmps51;go_wp2_with fail
 refine (za (Pp v w)).o.mono ?_;rintro e b ⟨rfl,rfl⟩;go_wp2;go_ret;simp
theorem OW (w) (n) (p:Nat) (v) (e) (g:e=4\/e=12) (f:Calls prog 51 #[(gf,()),(n:Int)] w (λy w'=>y=.returned (e:Int)/\w=w')):
 Calls prog 29 #[(gf,()),(n:Int),p,v] w (λy w'=>y=.returned (.tuple #[(),(e:Int)])/\w=w'):=by
 have c:decide ((p:Int)<0)=false:=zJ (by omega);have d:¬((p:Int)<0):=by omega
 rcases g with rfl|rfl;all_goals
  go_enter func29,ntmps29
  go_wp2_with fail
  refine (za f).o.mono ?_;rintro e b ⟨rfl,rfl⟩;go_wp2;go_ret2;exact⟨rfl,rfl⟩
theorem Vw (w) (n) (p:Nat) (vp) (vc) (j:p<=512) (i:Calls prog 51 #[(gf,()),(n:Int)] w (λy w'=>y=.returned ()/\w=w')):
 Calls prog 29 #[(gf,()),(n:Int),p,.slice vp 0 vc] w (λy w'=>y=.returned (.tuple #[(),()])/\w=w'):=by
 have c:decide ((p:Int)<0)=false:=zJ (by omega);have d:¬((p:Int)<0):=by omega
 have f:decide (512<(p:Int))=false:=zJ (by omega);have h:¬(512<(p:Int)):=by omega
 have g:¬(512<p):=by omega
 go_enter func29,ntmps29;go_wp2_with fail
 refine (za i).o.mono ?_;rintro e b ⟨rfl,rfl⟩;go_wp2;go_ret2;exact⟨rfl,rfl⟩
theorem OE (w) (n) (p) (vp) (L r:Nat) (t:(L:Int)<1000000000) (q:L=0\/512<p+L) (u:(p:Int)<1000000000) (s:Calls prog 51 #[(gf,()),(n:Int)] w (λy w'=>y=.returned ()/\w=w')):
 Calls prog 29 #[(gf,()),(n:Int),(p:Int),.slice vp L r] w (λy w'=>y=.returned (.tuple #[(),(if 512<p+L then 2 else 0:Int)])/\w=w'):=by
 have b:=za s;have h:decide ((p:Int)<0)=false:=zJ (by omega);have j:¬((p:Int)<0):=by omega
 have g:=zW (512-L) (by omega);by_cases k:512<L
 .have c:decide (512<(L:Int))=true:=zX (by omega);have d:(512<(L:Int)):=by omega
  rw[ze (by omega)];go_enter func29,ntmps29;go_wp2_with fail
  refine b.o.mono ?_;rintro e i ⟨rfl,rfl⟩;go_wp2;go_ret2;exact⟨rfl,rfl⟩
 .have c:decide (512<(L:Int))=false:=zJ (by omega);have d:¬(512<(L:Int)):=by omega
  by_cases f:512<p+L
  .have l:decide (512-L<(p:Int))=true:=zX (by omega);have m:(512-L<(p:Int)):=(by omega);rw[ze f];go_enter func29,ntmps29;go_wp2_with fail
   refine b.o.mono ?_;rintro e i ⟨rfl,rfl⟩;go_wp2;go_ret2;exact⟨rfl,rfl⟩
  .have a:L=0:=(by omega);rw[zb f];subst a;exact Vw w n p vp r (by omega) b.o
structure FP (s:Fs) (i p:Nat) (Dt:List Int):Prop where
 pts:Zm (s.nodes.getD i zN).P s.k
 len:(s.nodes.getD i zN).P.length<=8
 sz:0<=(s.nodes.getD i zN).s/\(s.nodes.getD i zN).s<=512
 run:P6 s (wrtT s i (s.nodes.getD i zN) p Dt)
theorem KV (h:FsAt w gf s F a) (i) (A:i<32) (p) (C:p<1000000000) (v) (Dt) (B:mU w v Dt) (D:Dt.length<1000000000)
 (z:(s.nodes.getD i zN).k=1->p+Dt.length<=512->0<Dt.length->FP s i p Dt):
 Calls prog 29 #[(gf,()),(i+1:Int),(p:Int),v] w
  (ρ (.tuple #[.int .i64 (wrtM s i p Dt).1.1,.int .i64 (wrtM s i p Dt).1.2]) λw'=>pW w gf (wrtM s i p Dt).2 F a w'):=by
 let⟨N,m⟩:=zD (s.nodes.getD i zN);have g:s.nodes[i]?=some N:=by rw[<-m.o];exact ju (by rwa[h.len])
 have d:=mo h i A N g;unfold wrtM;rw[m.o]at z |-;by_cases u:N.k=0
 .rw[ze u]at d |-;exact (OW w _ p v 4 (zu rfl) d).mono λe w' ⟨b,c⟩=>⟨b,c▸pW.same h zB⟩
 .rw[zb u]at d |-;by_cases b:N.k=1
  .rw[ze b]at d;rw[zb (λy=>y b)];by_cases c:512<p+Dt.length
   .rw[ze c];let⟨l,j,f⟩:=Nv B.1 Dt.length rfl;subst f;have:=OE w _ p l Dt.length j (by omega) (zw c) (by omega) d;rw[ze c]at this;exact this.mono λe w' ⟨b,c⟩=>⟨b,c▸pW.same h zB⟩
   .rw[zb c];by_cases n:Dt.length=0
    .rw[ze n];let⟨l,j,f⟩:=Nv B.1 Dt.length rfl;subst f;have:=OE w _ p l Dt.length j (by omega) (zu n) (by omega) d;rw[zb c]at this;exact this.mono λe w' ⟨b,c⟩=>⟨b,c▸pW.same h zB⟩
    .rw[zb n];let⟨x,q,r,t⟩:=z b (by omega) (by omega);rw[m.o]at x q r t;exact nK h i A N g b x q r p v Dt B (by omega) (by omega) t
  .rw[zb b]at d;rw[ze b];exact (OW w _ p v 12 (zw rfl) d).mono λe w' ⟨b,c⟩=>⟨b,c▸pW.same h zB⟩
theorem KQ (w) (p:Nat) (v):
 Calls prog 29 #[(gf,()),(),p,v] w (λy w'=>y=.returned (.tuple #[(),(4:Int)])/\w=w'):=OW w 0 p v 4 (zu rfl) (jN _ w)
theorem Cc (n):(Builtin.zeroCells #[.int .u8 0] n).toList=List.replicate n (Value.int .u8 0):=by
 apply oL
 .simp[Builtin.zeroCells]
 .intro i a b;simp[Builtin.zeroCells,nf]
theorem ii {P:Program} (w) (t e) (h:P.underlying t=some (.slice e)) (d:∀w,(zeroValue e).run P w=.ok (.int .u8 0) w)
 (g o n c) (cur) (ct) (i:w.heap[g]?=some (.cells cur ct)) (f:o+n<=cur.size) (j:0<n) (ty):
 (Builtin.clear_ #[t] ty #[.slice (some ⟨g,o,none⟩) n c]).run P w=.ok (.tuple #[]) (w.setRow g (cur.toList.take o++List.replicate n (Value.int .u8 0)++cur.toList.drop (o+n)).toArray):=by
 have a:=wS P g o ct (Builtin.zeroCells #[.int .u8 0] n).toList 0 cur w i (by rw[Cc,xt];omega) (by rw[Cc];intro v d;rw[wO d];rfl);rw[Cc]at a;simp[va,xt]at a;obtain⟨m,rfl⟩:∃m,n=m+1:=⟨n-1,by omega⟩;have b:Builtin.zeroCells #[.int .u8 0] (m+1)=(List.replicate (m+1) (Value.int .u8 0)).toArray:=by rw[<-Cc]
 simp[Builtin.clear_,wP h,d,Value.cells,b,a]
theorem u8Zv: ∀w,(zeroValue 5).run prog w=.ok (.int .u8 0) w:=(ui (P:=prog) (t:=5) (v:=.int .u8 0) (n:=1) rfl).1
theorem Qq (k m u g s l up) (v) (w):(Instr.field 102 (.agg #[.int .i64 k,.int .i64 m,.int .i64 u,.int .i64 g,.int .i64 s,.int .i64 l,.int .i64 up,v]) 4).run prog w=.ok (.int .i64 s) w:=rfl
theorem mV.putGone {w':World} {x:Tx} {rv:Value} {gn cn gd gp:Nat} {gv:Value} {E:List Nd} {pl:List (Int×Value)} (h:mV w B F T gt fp x rv gn cn gd gp gv E pl) (p:TxAt w B F gt fp x T) (gv') (l)
 (r:yK (λi=>i=gt) w w') (s:w'.heap[gt]?=some (.cells (txR fp x.fo rv (.slice (some ⟨gn,0,none⟩) 32 cn) (.map (some gd)) (.map (some gp)) gv' x.full x.fake) 92)) (q:w'.ownsRow w 3 1 gv' l.length (ints l)) (t:l.length<=1000):
 TxAt w' B F gt fp {x with gone:=l} (λi=>T i\/gv'.ownBlock=some i):=by
 have f:yK T w w':=r.mono λi _ a=>by rw[a];exact p.self
 have c:∀b,b<w.heap.size->b≠gt->w'.heap[b]?=w.heap[b]? :=λb j k=>r.block b j k;have m:∀i,(T i\/gv'.ownBlock=some i)->T i\/w.heap.size<=i:=λi a=>a.imp id λj=>(q.lt i j).1;have e:B<=w.heap.size:=by have j:=p.new gt p.self;have k:=xB h.row;omega
 refine mV.at (x:={x with gone:=l}) (rv:=rv) (gn:=gn) (cn:=cn) (gd:=gd) (gp:=gp) (gv:=gv') (E:=E) (pl:=pl) ⟨s,kw h.rows f m,?_,iA h.nds f m,?_,?_,?_,h.ne,?_,zu h.tn,zu h.td,zu h.tp,λb c=>zw c⟩ (zu p.self) p.len (λi a=>?_) (λi a=>?_) t p.put p.dirty p.rows p.fake
 .exact vE h.own λb d=>c b (h.own.lt b d).2 (tK h.own h.row (by decide) b d)
 .exact h.dirt.of_block (c gd h.dirt.lt (yA (xM h.row h.dirt)))
 .exact h.puts.of_block (c gp h.puts.lt (yA (xM h.row h.puts)))
 .exact h.secs.keep λg o _ n=>c g (xB n) (ve n h.row (by decide))
 .exact uR q e
 .rcases a with a|a
  .exact zr (p.fin i a) r.size
  .exact (q.lt i a).2
 .rcases a with a|a
  .exact p.new i a
  .exact zv e (q.lt i a).1
def cutY (s:Fs) (X:Pn) (sz:Int):Uw:=
 if (ZI X.P (blkN sz) X.s sz).toNat=0 then ⟨(tx0 s).ow,[],resP X.P (blkN sz)⟩ else
 wrU s.k ⟨(tx0 s).ow,[],resP X.P (blkN sz)⟩ (blkN sz-1) ((sc (tx0 s) s (resP X.P (blkN sz)) (blkN sz-1)).take (ZI X.P (blkN sz) X.s sz).toNat++List.replicate (64-(ZI X.P (blkN sz) X.s sz).toNat) 0)
def cutT (s:Fs) (i:Nat) (X:Pn) (sz:Int):Tx:={((tx0 s).wow (cutY s X sz).ow) with put:=(cutY s X sz).put,nodes:=s.nodes.set i {X with P:=(cutY s X sz).P,s:=sz},dirty:=putZ [] (i+1) (.bool true),gone:=srtI (pR X.P (blkN sz))}
def cutM (s:Fs) (i sz:Nat):Int×Fs:=
 let X:=s.nodes.getD i zN
 if X.k=0 then (4,s) else if X.k≠1 then (12,s) else if X.s=sz then (0,s) else (endE s (cutT s i X sz),endS s (cutT s i X sz))
theorem GR (h:FsAt w gf s F a) (i) (hi:i<32) (X) (hX:s.nodes[i]?=some X) (hk:X.k=1) (hP:Zm X.P s.k) (ay:QG X=0)
 (sz:Nat) (aU:sz<=512) (aG:X.s≠sz) (hr:P6 s (cutT s i X sz)):
 Calls prog 38 #[(gf,()),(i+1:Int),sz] w
  (ρ (endE s (cutT s i X sz):Int) λw'=>pW w gf (endS s (cutT s i X sz)) F a w'):=by
 have H:=za h;have aR:=mo h i hi X hX;rw[hk,zb (by omega),ze rfl]at aR;have cu:=za aR;have cm:=za (tH h);have bg:=za (λ(W:World) (x:Nat) (T:Nat->Prop) (hT:TxAt W w F x (gf,()) (tx0 s) T)=>kN hT i hi X hX);have cX:=za hP;obtain⟨XT,b7⟩:=zD (cutT s i X (sz:Int));rw[b7.o]at hr |-;have ar:Hid (∀(W) (x) (T),Below w w W->TxAt W w F x (gf,()) XT T ->
  Calls prog 46 #[(x,())] W
   (ρ (endE s XT:Int) λw'=>pW w gf (endS s XT) F a w')):=λW x T hW hT=>kP H.o hW hT hr
 obtain⟨ee,cl⟩:=zD (endE s XT);obtain⟨es,ck⟩:=zD (endS s XT);rw[cl.o,ck.o]at ar |-;obtain⟨K,HK⟩:=zD (blkN (sz:Int));have bi:K<=8:=by rw[<-HK.o];exact Mh (by omega)
 obtain⟨bn,bZ,ad,_⟩:=mA ay (by omega:X.k≠0);have cq:Hid (X.P.length<=8):=by show _<=_;rw[ad];exact Mh bn.2
 obtain⟨G,HG⟩:=zD (srtI (pR X.P K));have be:Hid (G.length=(pR X.P K).length):=by show _=_;rw[<-HG.o];exact (lP _).length_eq
 have bC:Hid (G.length<=8):=by show _<=_;rw[be.o];exact zv (UN _ _) cq.o
 obtain⟨d,ah⟩:=zD (resP X.P K);have y:Hid (d.length=K):=by show _=_;rw[<-ah.o];exact nQ _ _
 have aA:Hid (Zm d s.k):=by
  intro r hr;rw[<-ah.o]at hr;unfold resP at hr;rcases yN.1 hr with hr|hr
  .exact hP r (xI hr)
  .have:=wO hr;have:=h.k0;omega
 obtain⟨f,ax⟩:∃f:Nat,Hid (ZI X.P K X.s (sz:Int)=(f:Int)):=⟨(ZI X.P K X.s (sz:Int)).toNat,by show _=_;have:=(X2 X.P K X.s (sz:Int)).1;omega⟩;have c6:f<64:=by have C:=(X2 X.P K X.s (sz:Int)).2.1;have:=ax.o;omega
 have cy:Hid (f≠0->0<K/\d.getD (K-1) 0≠0):=λh0=>by
  have C:=ax.o;rw[<-ah.o];have N:(resP X.P K).getD (K-1) 0≠0:=by
   unfold ZI at C;split at C
   .next N=>exact N.2.2
   .omega
  refine⟨?_,N⟩;rcases wM K with hK|hK
  .subst hK;exact yi (by unfold resP;simp) N
  .exact hK
 have bN:Hid (cutY s X sz=if f=0 then ⟨(tx0 s).ow,[],d⟩ else wrU s.k ⟨(tx0 s).ow,[],d⟩ (K-1) ((sc (tx0 s) s d (K-1)).take f++List.replicate (64-f) 0)):=by show _=_;unfold cutY;rw[HK.o,ah.o,ax.o,yQ]
 have b4:Hid (∀(v) (W),tP W v X.P->Calls prog 91 #[.agg #[X.k,X.m,X.u,X.g,X.s,X.l,X.up,v],sz] W (λe w'=>∃D I gv,e=.returned (.tuple #[.agg #[X.k,X.m,X.u,X.g,sz,X.l,X.up,.slice D K I],gv,f,()]) /\
  w'.ownsRow W 3 1 (D,K,I) K (ints d)/\w'.ownsRow W 3 1 gv G.length (ints G)/\Below W W w'/\∀b,(Value.slice D K I).ownBlock=some b->gv.ownBlock≠some b)):=λv W hv=>by
  have C:=Im X.k X.m X.u X.g X.s X.l X.up v X.P (sz:Int) W hv ay (by omega) (by omega) (by omega);unfold YD at C;rw[HK.o,HG.o,ax.o,ah.o,<-be.o]at C;exact C
 have di:decide (512<(sz:Int))=false:=zJ (by omega);have cJ:¬512<(sz:Int):=by omega
 have c7:¬512<sz:=by omega
 have cK:decide ((sz:Int)<0)=false:=zJ (by omega);have cC:¬(sz:Int)<0:=by omega
 have b0:(X.s==sz)=false:=by simpa using aG
 clear h aR hX hk hP ay hr bn bZ ad;go_enter func38,ntmps38;go_wp2_with fail
 refine cu.o.mono ?_;rintro e w1 ⟨rfl,rfl⟩;go_wp2_with fail
 refine cm.o.mono ?_;rintro e w1 ⟨x,T,rfl,bL,hT⟩;have b5:=za bL;have cv:=za hT;have a5:=za (bg.o w1 x T hT);clear bL hT;go_wp2_with fail
 refine a5.o.mono ?_;rintro e w2 ⟨q0,n0,c0,rfl,_,aK⟩;have bp:=za (Below.trans b5.o (aK.mono b5.o.size));have bh:=za (cv.o.below aK);have a3:=za (bg.o w2 x T bh.o);clear aK a5;have cg:=Qq;go_wp2_with fail
 refine a3.o.mono ?_;rintro e w3 ⟨q,n,c,rfl,z,aN⟩;have S:=za (Below.trans bp.o (aN.mono bp.o.size));have Z:=za (bh.o.below aN);have cd:=za (b4.o (q,n,c) w3 z.now);clear aN z a3;go_wp2_with fail
 refine cd.o.mono ?_;rintro e w4 ⟨D,I,gv,rfl,b2,aM,bK,a4⟩;have bf:=za b2;have bm:=za aM;have aP:=za bK;obtain⟨gq,gc,rfl,_⟩:=rU aM;have b3:=za a4;clear b2 aM bK a4;obtain⟨J,af⟩:=zD w4.heap.size;have aw:Hid (w3.heap.size<=J):=by show _;rw[<-af.o];exact aP.o.size
 have a8:Hid (TxAt w3 w (λi=>F i\/i=J) x (gf,()) (tx0 s) T):=Z.o.outer λi hi hg=>hg.resolve_right (by have:=aw.o;omega);obtain⟨rv,gn,cn,gd,gp,dm,E,pl,hl⟩:=a8.o.lies;have cz:=za hl;have aS:Hid (Below w3 w3 (w4.alloc (.cells #[X.k,X.m,X.u,X.g,sz,X.l,X.up,(D,K,I)] 102))):=aP.o.alloc aP.o.size _;have bB:Hid ((w4.alloc (.cells #[X.k,X.m,X.u,X.g,sz,X.l,X.up,(D,K,I)] 102)).heap[J]?=some (.cells #[X.k,X.m,X.u,X.g,sz,X.l,X.up,(D,K,I)] 102)):=by rw[<-af.o];exact zH
 have L:Hid ((w4.alloc (.cells #[X.k,X.m,X.u,X.g,sz,X.l,X.up,(D,K,I)] 102)).ownsRow w3 3 1 (D,K,I) K (ints d)/\(w4.alloc (.cells #[X.k,X.m,X.u,X.g,sz,X.l,X.up,(D,K,I)] 102)).ownsRow w3 3 1 (gq,G.length,gc) G.length (ints G)):=⟨tt bf.o (zB.alloc zL _),tt bm.o (zB.alloc zL _)⟩;have aJ:Hid (J≠x/\x<w3.heap.size/\¬T J/\(∀b,(Value.slice D K I).ownBlock=some b->b<J)/\∀b,(Value.slice gq G.length gc).ownBlock=some b->b<J):=by
  have C:=xB hl.row;have h2:=aw.o;refine⟨by omega,C,λN=>?_,λb A=>?_,λb A=>?_⟩
  .have:=Z.o.fin J N;omega
  .rw[<-af.o];exact (bf.o.lt b A).2
  .rw[<-af.o];exact (bm.o.lt b A).2
 go_upto_region 14 with fail
 rw[af.o];generalize w4.alloc (.cells #[X.k,X.m,X.u,X.g,sz,X.l,X.up,(D,K,I)] 102)=w5 at *
 have t:=xV aS.o hl.row;have b6:=(nw t).2.2.2.2.2.1;have cE:w5.frozen? (x,197)=false:=zF t;have cs:=za t;have R:yK (λi=>i=x) w5 (w5.setCell (x,197) (gq,G.length,gc)):=yK.setCell (F:=λi=>i=x) (p:=⟨x,197,none⟩) rfl _;have bl:(w5.setCell (x,197) (gq,G.length,gc)).heap[x]?=some (.cells (txR (gf,()) (tx0 s).fo rv (.slice (some ⟨gn,0,none⟩) 32 cn) (.map (some gd)) (.map (some gp)) (gq,G.length,gc) (tx0 s).full (tx0 s).fake) 92):=by rw[<-iz];exact zT _ _ 197 _ _ _ t
 have bv:=vE L.o.2 λb A=>R.block b (L.o.2.lt b A).2 (tK L.o.2 t (by decide) b A);have bO:=vE L.o.1 λb A=>R.block b (L.o.1.lt b A).2 (tK L.o.1 t (by decide) b A);have Y:=za (cz.o.putGone a8.o (gq,G.length,gc) G ((yK.of_below aS.o).step R) bl bv (by have:=bC.o;omega));have av:=za ((R.block J (xB bB.o) aJ.o.1).trans bB.o);have az:=za bO;have c4:Hid (yK T w3 (w5.setCell (x,197) (gq,G.length,gc))):=(yK.of_below aS.o).step (R.mono λi _ hi=>by rw[hi];exact Z.o.self);have j:=za (S.o.trans (c4.o.to_below Z.o.new S.o.size));have bF:Hid (∀(W) (T') (q') (c') (Q),cutY s X sz=Q->TxAt W w (λi=>F i\/i=J) x (gf,()) {(tx0 s).wow Q.ow with put:=Q.put,gone:=G} T'->TQ (λi=>F i\/T' i) {X with P:=Q.P,s:=sz} W q' K c' ->
  Calls prog 65 #[(x,()),(i+1:Int),.agg #[X.k,X.m,X.u,X.g,sz,X.l,X.up,(q',K,c')]] W
   (ρ (.tuple #[]) λw'=>sZ w F x (gf,()) XT T' W w')):=λW T' q' c' Q ci hW z=>by
  have bq:=Zi (hW.outer λr _ hr=>zu hr) i hi {X with P:=Q.P,s:=(sz:Int)} q' K c' z (by show (0:Nat)<900;omega);have e:XT={({(tx0 s).wow Q.ow with put:=Q.put,gone:=G}) with nodes:=({(tx0 s).wow Q.ow with put:=Q.put,gone:=G}).nodes.set i {X with P:=Q.P,s:=sz},dirty:=putZ ({(tx0 s).wow Q.ow with put:=Q.put,gone:=G}).dirty (i+1) (.bool true)}:=by rw[<-b7.o];unfold cutT;rw[ci,HK.o,HG.o];rfl
  rw[e];exact bq
 have cj:=b6;clear hl t R bl bv bO cg;by_cases ag:f=0
 .subst ag;have aL:Hid (cutY s X sz=⟨(tx0 s).ow,[],d⟩):=by show _=_;rw[bN.o];rfl
  have cw:decide (0<((0:Nat):Int))=false:=rfl
  go_upto_region 20 with fail
  generalize w5.setCell (x,197) (gq,G.length,gc)=w6 at *
  obtain⟨r0,r1,r2,r3,r4,r5,r6,r7⟩:=ug av.o;have z:TQ (λi=>F i\/(T i\/(Value.slice gq G.length gc).ownBlock=some i)) {X with P:=d,s:=sz} w6 D K I:=by
   have C:tP w6 (D,K,I) d:=(by have:=uq.of_owns az.o;unfold tP;rw[y.o];exact this);refine Q3 C λb A aj O=>?_;have h2:=(az.o.lt b A).1;rcases O with O|O|O
   .have:=H.o.fin b O;have:=S.o.size;omega
   .have:=Z.o.fin b O;omega
   .exact b3.o b A O
  have cf:=za (bF.o w6 _ D I _ aL.o Y.o z);clear z;go_wp2_with fail
  refine cf.o.mono ?_;rintro e w9 ⟨rfl,d9⟩;have aD:=za (d9.old j.o (Y.o.outer λr _ hr=>zu hr));obtain⟨T9,t9,_⟩:=d9;have aF:=za (ar.o w9 x T9 aD.o t9);clear t9 r0 r1 r2 r3 r4 r5 r6 r7;go_wp2_with fail
  refine aF.o.mono ?_;rintro e U ⟨rfl,ai⟩;have aQ:=za ai;clear ai;go_wp2;go_ret;exact⟨rfl,aQ.o⟩
 .obtain⟨da,bH⟩:=cy.o ag;have cw:decide (0<(f:Int))=true:=zX (by omega);have cY:0<(f:Int):=by omega
  have cV:0<f:=by omega
  have iK:IntKind.i64.wrap (K-1)=((K-1:Nat)):=by rw[zM _ (by omega)];omega
  obtain⟨B,a1⟩:=zD (K-1);rw[a1.o]at iK bH;have aZ:B<8:=by have:=a1.o;omega
  have an:B<d.length:=by rw[y.o];have:=a1.o;omega
  have aX:d.getD B 0=d[B]:=by rw[zt,zk an];rfl
  have ct:=aA.o _ (Nj an);rw[aX]at bH;have ca:=H.o.k1;obtain⟨p',o',ao⟩:∃p' o',ownU (tx0 s).ow s.k d[B]=(p',o'):=⟨_,_,rfl⟩;have au:∀q∈d,PtR {tx0 s with gone:=G} s q:=λq hq=>by have C:=aA.o q hq;exact⟨C.1,by omega,zu C.2⟩
  have ap:tP (w5.setCell (x,197) (gq,G.length,gc)) (D,K,I) d:=by have:=uq.of_owns az.o;unfold tP;rw[y.o];exact this
  have aj:=R6 Y.o (H.o.below j.o) {X with P:=d,s:=(sz:Int)} D K I ap B aZ au (by show d.length<=8;rw[y.o];exact bi);have am:=QO Y.o (H.o.below j.o) d B au;have aT:sc {tx0 s with gone:=G} s d B=sc (tx0 s) s d B:=rfl;obtain⟨D0,aC⟩:=zD (sc (tx0 s) s d B);rw[show (({X with P:=d,s:=(sz:Int)}:Pn).P)=d from rfl,aT,aC.o]at aj;rw[aT,aC.o]at am;have ce:=za aj;have ak:=za am;have b1:=za ap;have aL:Hid (cutY s X sz=⟨o',putZ [] p' (D0.take f++List.replicate (64-f) 0),d.set B p'⟩):=by show _=_;rw[bN.o,zb ag,a1.o,aC.o];unfold wrU;rw[show ((⟨(tx0 s).ow,[],d⟩:Uw).P.getD B 0)=d[B] from aX,ao]
  have bz:=za ao;have bx:Hid (0<=d[B]/\d[B]<=1000000):=by show 0<=d[B]/\d[B]<=1000000;omega
  clear aj am aT ap ct ao au
  go_upto_region 16 with fail
  generalize w5.setCell (x,197) (gq,G.length,gc)=w6 at *
  obtain⟨r0,r1,r2,r3,r4,r5,r6,r7⟩:=ug av.o;go_wp2_with fail
  refine ce.o.mono ?_;rintro e w7 ⟨v7,rfl,g,aq,ae,bJ,a0,aH,a2,bI⟩;rw[ak.o]at bJ a2 a0;subst bJ;have ac:=za a0;have bE:64<=ae.size:=by have C:=zQ List.length a2;rw[Ni,wd,ak.o,ye]at C;omega
  have bM:=λty=>ii (P:=prog) w7 38 5 u8sT u8Zv g f (64-f) (aq-f) ae _ aH (by omega) (by omega) ty;obtain⟨V,bo⟩:=zD ((ae.toList.take f++List.replicate (64-f) (Value.int .u8 0)++ae.toList.drop (f+(64-f))).toArray);rw[bo.o]at bM;have M:Hid (Below w6 w6 (w7.setRow g V)):=xd bI a0.1 _;have bY:Hid ((w7.setRow g V).heap[g]?=some (.cells V 5)):=ya _ _ _ _ _ _ aH;have cb:Hid (V.toList.take 64=u8s (D0.take f++List.replicate (64-f) 0)):=by
   show _=_;rw[<-bo.o,xU];have e1:(ae.toList.take f++List.replicate (64-f) (Value.int .u8 0)).length=64:=(by rw[zl,Ni,xt,ye];omega);rw[yC (by rw[e1];omega),zo (by rw[e1];omega),pX]
   congr 1
   .rw[ZP,<-a2,we]
    congr 1
    omega
   .simp[u8s]
  clear a0 aH a2 bI r0 r1 r2 r3 r4 r5 r6 r7;have cQ:=zW (64-f) (by omega);have dg:¬aq=f:=by have:=ac.o.2;omega
  have cD:f<=aq:=by have:=ac.o.2;omega
  go_upto_region 19 with fail
  generalize w7.setRow g V=w8 at *
  have a6:js w8 w (.slice (some ⟨g,0,none⟩) 64 aq) (D0.take f++List.replicate (64-f) 0):=⟨g,aq,V,rfl,by rw[zl,Ni,xt,ak.o];omega,ac.o.2,zv j.o.size ac.o.1,bY.o,cb.o⟩;have aO:¬(T J\/(Value.slice gq G.length gc).ownBlock=some J):=λN=>by
   rcases N with N|N
   .exact aJ.o.2.2.1 N
   .have:=aJ.o.2.2.2.2 J N;omega
  have bX:=za (Oo H.o (j.o.trans (M.o.mono j.o.size)) (Y.o.below M.o) J {X with P:=d,s:=(sz:Int)} D K I (xV M.o av.o) (uq.below b1.o M.o) ⟨zw rfl,aO,zv S.o.size aw.o⟩ B an (by rw[y.o];exact bi) (by show (256:Int)<1000000;omega) bx.o p' o' bz.o _ _ a6 (λb A N=>by injection A with A;have bs:g=b:=A;have C:=Y.o.fin b N;have:=ac.o.1;omega) (by show (0:Nat)<900;omega));have cG:=za (xB av.o);clear a6 bM bE;go_wp2_with fail
  refine bX.o.mono ?_;rintro e U ⟨rfl,T2,g2,c2,ba,u1,u2,u3,u4,⟨u5,u6,u7⟩,cc,bj,u9⟩;have al:TxAt U w (λi=>F i\/i=J) x (gf,()) {(tx0 s).wow o' with put:=putZ [] p' (D0.take f++List.replicate (64-f) 0),gone:=G} T2:=ba;have h9:tP U (g2,0,K,c2) (d.set B p'):=by
   refine⟨by simp[ints],zw ⟨g2,0,c2,by rw[xT,y.o],λr u hr=>?_⟩⟩;rw[yF,zC bj,<-zK];have ch:r<d.length:=(by have:=(zG.1 hr).1;simpa[ints]using this);have h3:(cc.toList.take d.length)[r]?=some u:=by have c1:=u9;rw[c1];exact hr
   rwa [zI,ze ch]at h3
  have z:TQ (λi=>F i\/T2 i) {X with P:=d.set B p',s:=sz} U (some ⟨g2,0,none⟩) K c2:=by
   refine Q3 h9 λb A aj O=>?_;injection A with A;have bs:g2=b:=A;subst bs;rcases O with O|O
   .have C:=H.o.fin _ O;have h2:=j.o.size;have h3:=M.o.size;omega
   .exact u6 O
  have aY:=za (bF.o U _ (some ⟨g2,0,none⟩) c2 _ aL.o al z);have bu:=za (al.outer (F':=F) λr _ hr=>zu hr);have a9:U.heap[J]?=some (.cells #[X.k,X.m,X.u,X.g,sz,X.l,X.up,(g2,0,K,c2)] 102):=by have:=u4;rw[y.o]at this;exact this
  obtain⟨r0,r1,r2,r3,r4,r5,r6,r7⟩:=ug a9;have aE:=za ((j.o.trans (M.o.mono j.o.size)).trans (u3.to_below (λi hi=>by
   rcases hi with (hi|hi)|hi
   .exact Z.o.new i hi
   .have C:=(az.o.lt) ;have h2:=(L.o.2.lt i hi).1;have:=S.o.size;omega
   .rw[hi];exact zv S.o.size aw.o) (zv j.o.size M.o.size)))
  clear ba al u1 u2 u3 u4 u5 u6 u7 bj u9 h9 z a9;go_wp2_with fail
  refine aY.o.mono ?_;rintro e cp ⟨rfl,d9⟩;have aD:=za (d9.old aE.o bu.o);obtain⟨T9,t9,_⟩:=d9;have aF:=za (ar.o cp x T9 aD.o t9);clear t9 r0 r1 r2 r3 r4 r5 r6 r7;go_wp2_with fail
  refine aF.o.mono ?_;rintro e dk ⟨rfl,ai⟩;have aQ:=za ai;clear ai;go_wp2;go_ret;exact⟨rfl,aQ.o⟩
theorem VA (h:FsAt w gf s F a) (i:Nat) (I:i<32) (X) (G:s.nodes[i]?=some X) (J:X.k=1) (sz:Nat) (K:sz<=512) (H:X.s=sz):
 Calls prog 38 #[(gf,()),(i+1:Int),sz] w
  (κ w ()):=by
 have b:=mo h i I X G;rw[J,zb (by omega),ze rfl]at b;have y:decide (512<(sz:Int))=false:=zJ (by omega);have u:¬512<(sz:Int):=by omega
 have t:¬512<sz:=by omega
 have v:decide ((sz:Int)<0)=false:=zJ (by omega);have x:¬(sz:Int)<0:=by omega
 have B:(X.s==sz)=true:=by simpa using H
 go_enter func38,ntmps38;go_wp2_with fail
 refine (za b).o.mono ?_;rintro e r ⟨rfl,rfl⟩;go_wp2_with fail
 refine (za (tH h)).o.mono ?_;rintro e r ⟨p,T,rfl,g,j⟩;have d:=za g;have c:=za ((za (λ(W:World) (p:Nat) (T:Nat->Prop) (j:TxAt W w F p (gf,()) (tx0 s) T)=>kN j i I X G)).o r p T j);have z:=Qq;go_wp2_with fail
 refine c.o.mono ?_;rintro e E ⟨A,C,D,rfl,_,f⟩;go_wp2;go_ret;exact⟨rfl,(za (Below.trans d.o (f.mono d.o.size))).o⟩
theorem mc (w) (n) (sz:Nat) (e) (g:e=4\/e=12) (f:Calls prog 51 #[(gf,()),(n:Int)] w (λy w'=>y=.returned (e:Int)/\w=w')):
 Calls prog 38 #[(gf,()),(n:Int),sz] w (λy w'=>y=.returned (e:Int)/\w=w'):=by
 have c:decide ((sz:Int)<0)=false:=zJ (by omega);have d:¬((sz:Int)<0):=by omega
 rcases g with rfl|rfl;all_goals
  go_enter func38,ntmps38
  go_wp2_with fail
  refine (za f).o.mono ?_;rintro e b ⟨rfl,rfl⟩;go_wp2;go_ret;simp
structure Iz (s:Fs) (i sz:Nat):Prop where
 pts:Zm (s.nodes.getD i zN).P s.k
 right:QG (s.nodes.getD i zN)=0
 run:(s.nodes.getD i zN).s≠(sz:Int)->P6 s (cutT s i (s.nodes.getD i zN) (sz:Int))
theorem J2 (h:FsAt w gf s F a) (i) (t:i<32) (sz) (q:sz<=512) (r:(s.nodes.getD i zN).k=1->Iz s i sz):
 Calls prog 38 #[(gf,()),(i+1:Int),(sz:Int)] w
  (ρ (.int .i64 (cutM s i sz).1) λw'=>pW w gf (cutM s i sz).2 F a w'):=by
 let⟨N,g⟩:=zD (s.nodes.getD i zN);have d:s.nodes[i]?=some N:=by rw[<-g.o];exact ju (by rwa[h.len])
 have f:=mo h i t N d;unfold cutM;rw[g.o]at r |-;by_cases m:N.k=0
 .rw[ze m]at f |-;exact (mc w _ sz 4 (zu rfl) f).mono λe w' ⟨b,c⟩=>⟨b,c▸pW.same h zB⟩
 .rw[zb m]at f |-;by_cases b:N.k=1
  .rw[zb (λp=>p b)];let⟨n,j,l⟩:=r b;rw[g.o]at n j l;by_cases c:N.s=(sz:Int)
   .rw[ze c];exact (VA h i t N d b sz q c).mono λe w' ⟨b,c⟩=>⟨b,pW.same h c⟩
   .rw[zb c];exact GR h i t N d b n j sz q c (l c)
  .rw[zb b]at f;rw[ze b];exact (mc w _ sz 12 (zw rfl) f).mono λe w' ⟨b,c⟩=>⟨b,c▸pW.same h zB⟩
theorem J3 (w) (sz:Nat):
 Calls prog 38 #[(gf,()),(),sz] w (λy w'=>y=.returned (4:Int)/\w=w'):=mc w 0 sz 4 (zu rfl) (jN _ w)
theorem GW (w) (i) (name) (d:tM name=true):
 Calls prog 39 #[(gf,()),(i:Int),.string name,()] w (λy w'=>y=.returned (4:Int)/\w=w'):=by
 have a:=za (λW=>PZ name W);rw[d]at a;go_enter func39,ntmps39;go_wp2_with fail
 refine (a.o w).mono ?_;rintro e c ⟨rfl,rfl⟩;go_wp2_with fail
 refine (za (Pp (gf,()) w)).o.mono ?_;rintro e c ⟨rfl,rfl⟩;go_wp2;go_ret;simp
theorem GU (h:FsAt w gf s F a) (i) (X) (D) (R:DirS s i X D):
 Calls prog 53 #[(gf,()),(i+1:Int)] w (λe w'=>∃v,e=.returned (.tuple #[v,()])/\w'.ownsRow w 112 2 v (outD D).length (ents (outD D))/\Below w w w'):=by
 have m:=za (rn h i R.lt X R.nd);rw[R.k,zb (by omega),ze rfl]at m;have x:Hid (∀(g) (T) (W),Below w w W->TxAt W w F g (gf,()) ⟨s.fo,s.rows,s.nodes,[],[],[],false,256⟩ T ->
  Calls prog 106 #[(g,()),(i+1:Int)] W (λe w'=>∃v,e=.returned v/\mU w' v D/\Below W W w')):=λg T W H I=>by
  have:=kO I (h.below H) i R.lt X R.nd (Ql R.pts h.k1) R.len R.sz;have M:secT ⟨s.fo,s.rows,s.nodes,[],[],[],false,256⟩ s=secE s:=by funext n;rfl
  rw[M,R.by_]at this;exact this.mono λe w' ⟨v,J,B,L⟩=>⟨v,J,⟨uq.of_owns B,pO B⟩,L⟩
 have y:D.length<=1000:=by have:=mM (secE s) X.P X.s;rw[R.by_]at this;have:=R.sz;have:=R.len;omega
 have A:Hid (∀(v) (W),mU W v D->Calls prog 105 #[v] W (P7 D W)):=λv W q=>mF v D W q R.byte (by omega);go_enter func53,ntmps53;go_wp2_with fail
 refine m.o.mono ?_;rintro e w' ⟨rfl,rfl⟩;go_wp2_with fail
 refine (za (tH h)).o.mono ?_;rintro e E ⟨g,T,rfl,l,c⟩;have d:=za l;go_wp2_with fail
 refine (x.o g T E d.o (za c).o).mono ?_;rintro e O ⟨v,rfl,q,j⟩;have f:=za (zi d.o j);go_wp2_with fail
 refine (A.o v O (za q).o).mono ?_;intro e Q b;rcases b with⟨_,b⟩|⟨b,_⟩
 .obtain⟨G,rfl,C,p⟩:=b;go_wp2;go_ret2;exact⟨G,rfl,(za (gH C f.o.size)).o,(za (zi f.o p)).o⟩
 .rw[(za R.ok).o]at b;cases b
def dirB (s:Fs) (i:Nat):List Int:=sF (secE s) (s.nodes.getD i zN).P (s.nodes.getD i zN).s
def nS (s:Fs) (n:Int):Bool:=decide ((s.nodes.getD (n-1).toNat zN).k=2)
def Nf (s:Fs):List Int->List En->List Int
 | out,[]=>out
 | out,x::l=>Nf s (if nS s x.2&&!(out.contains x.2) then out++[x.2] else out) l
def D7 (s:Fs):Nat->Nat->List Int->List Int
 | 0,_,out=>out
 | f+1,i,out=>if i<out.length/\out.length<=32 then D7 s f (i+1) (Nf s out (outD (dirB s (out.getD i 0-1).toNat))) else out
def RA (s:Fs):List Int:=D7 s 33 0 [1]
def RQ (s:Fs):Prop:=(∀i,i<32->(s.nodes.getD i zN).k=2->DirS s i (s.nodes.getD i zN) (dirB s i))/\(s.nodes.getD 0 zN).k=2
def DlOk (s:Fs) (out:List Int):Prop:=∀n∈out,1<=n/\n<=32/\(s.nodes.getD (n-1).toNat zN).k=2
theorem Z4 (h:DirS s i (s.nodes.getD i zN) (dirB s i)):(outD (dirB s i)).length<=32/\∀x∈outD (dirB s i),1<=x.2/\x.2<=32:=have⟨a,b,_⟩:=(qO _).1 (su h.ok).2.1;⟨a,λx c=>(kK (b x c)).2⟩
theorem K3 (s):∀(l) (out) (x),Nf s out (l++[x])=(if nS s x.2&&!((Nf s out l).contains x.2) then Nf s out l++[x.2] else Nf s out l)
 | [],out,x=>rfl
 | y::l,out,x=>K3 s l _ x
theorem OQ {s:Fs}:∀{l} {out},DlOk s out->(∀x∈l,1<=x.2/\x.2<=32)->DlOk s (Nf s out l)/\out.length<=(Nf s out l).length/\(Nf s out l).length<=out.length+l.length
 | [],out,h,_=>⟨h,zL,zL⟩
 | x::l,out,h,e=>by
  unfold Nf;split
  .next j=>
   have i:DlOk s (out++[x.2]):=λn d=>by
    rcases yN.1 d with d|d
    .exact h n d
    .rw[xZ]at d;subst d;have:=e x (xK ..);exact⟨this.1,this.2,(by have:=(Bool.and_eq_true_iff.1 j).1;exact qQ this)⟩
   let⟨a,b,c⟩:=OQ i (λy f=>e y (xj _ f));rw[zl]at b c;simp at b c |-;exact⟨a,by omega,by omega⟩
  .let⟨a,b,c⟩:=OQ h (λy f=>e y (xj _ f));exact⟨a,b,by simp;omega⟩
theorem WM (h:FsAt w gf s F a) (hd:RQ s):
 Calls prog 20 #[(gf,())] w (λe w'=>∃v,e=.returned v/\w'.ownsRow w 3 1 v (RA s).length (ints (RA s))/\Below w w w'):=by
 have H:=za h;have HD:=za hd;obtain⟨R,HR⟩:=zD (RA s);rw[HR.o];have aK:=za h.len;have bi:Hid (Below w w (w.alloc (.cells #[(1:Int)] 3))):=zB.alloc zL _;have bp:Hid ((w.alloc (.cells #[(1:Int)] 3)).ownsRow w 3 1 (.slice (some ⟨w.heap.size,0,none⟩) 1 1) 1 (ints [1])):=⟨rfl,zw ⟨_,1,_,rfl,zL,zH,zL,by decide,rfl,rfl⟩⟩;obtain⟨i0,aN,aD,aQ,aM⟩:=yX kG;have bz:=za aN;have bb:=za aD;have aX:=za aQ;have bh:=za aM;have bd:Hid (DlOk s [1]):=λn hn=>by rw[xZ]at hn;subst hn;exact⟨by omega,by omega,hd.2⟩
 clear h hd aN aD aQ aM;go_enter func20,ntmps20;go_wp2;generalize bZ:w.alloc (.cells #[(1:Int)] 3)=wa at *
 go_loopw [3,4] (λo i wr=>∃(k f:Nat) (j:List Int),k<=32/\f+k=33/\i=.int .i64 k/\j.length<=64/\Hid (DlOk s j/\D7 s f k j=R)/\Hid (wr.ownsRow w 3 1 o j.length (ints j))/\Hid (Below w w wr)) (λ_ i _=>33-(intOf i).toNat)
 .exact⟨0,33,[1],by omega,by omega,rfl,by simp,⟨bd.o,HR.o⟩,bp.o,bi.o⟩
 .obtain⟨k,f,j,hk,bU,rfl,bc,a1,HO,HB⟩:=hrel;obtain⟨q,c,hv,_⟩:=rU HO.o;subst hv;obtain⟨L,HL⟩:=zD j.length;rw[HL.o]at HO bc |-;obtain⟨f,rfl⟩:∃f',f=f'+1:=⟨f-1,by omega⟩;have d:=a1.o.2;unfold D7 at d;rw[HL.o]at d;by_cases ae:k<L;case neg=>
   rw[zb (λhc=>ae hc.1)]at d;have d1:decide (k<(L:Int))=false:=zJ (by omega);have d2:¬k<(L:Int):=(by omega);have ac:Hid (R.length=L/\ints R=ints j):=(by rw[<-d];exact⟨HL.o,rfl⟩);clear d ae;go_wp2;go_ret;exact⟨_,rfl,by rw[ac.o.1,ac.o.2];exact HO.o,HB.o⟩
  have d1:decide (k<(L:Int))=true:=zX (by omega);have d2:k<(L:Int):=by omega
  by_cases aH:L<=32;case neg=>
   rw[zb (λhc=>aH hc.2)]at d;have d3:decide ((L:Int)<=32)=false:=zJ (by omega);have d4:¬(L:Int)<=32:=(by omega);have ac:Hid (R.length=L/\ints R=ints j):=(by rw[<-d];exact⟨HL.o,rfl⟩);clear d ae;go_wp2;go_ret;exact⟨_,rfl,by rw[ac.o.1,ac.o.2];exact HO.o,HB.o⟩
  have d3:decide ((L:Int)<=32)=true:=zX (by omega);have d4:(L:Int)<=32:=by omega
  rw[ze ⟨ae,aH⟩]at d;have az:k<j.length:=by rw[HL.o];exact ae
  have a6:j.getD k 0=j[k]:=by rw[zt,zk az];rfl
  obtain⟨n1,n2,n3⟩:=a1.o.1 _ (Nj az);obtain⟨n,hn⟩:∃n:Nat,j[k]=(n:Int)+1:=⟨(j[k]-1).toNat,by omega⟩;rw[a6,hn]at d;rw[hn]at n1 n2 n3;have e:((n:Int)+1-1).toNat=n:=by omega
  rw[e]at d n3;have a8:n<32:=by omega
  have ax:=HD.o.1 n a8 n3;have ab:=za (Z4 ax);have aJ:=za (GU (H.o.below HB.o) n _ _ ax);obtain⟨J,aG⟩:=zD (outD (dirB s n));rw[aG.o]at d ab aJ;obtain⟨g,cc,hq,aS,aB⟩:=HO.o.form (by omega);injection hq with e1 e2 e3;subst e1 e3;clear e2;have ar:wr.cell? (g,k)=some (.int .i64 (n+1)):=by
   have:=HO.o.cells (g:=g) rfl k (.int .i64 ((n:Int)+1)) (by unfold ints;rw[xE,zk az,hn];rfl);have G:(⟨g,0,none⟩:Addr).add k=⟨g,k,none⟩:=by unfold Addr.add;split<;>simp_all
   rwa [G]at this
  have b3:=za d;have bJ:Hid (g<wr.heap.size/\w.heap.size<=g):=⟨aB,aS⟩;clear d a6 n1 n2 n3 hn e ax aS aB;go_wp2_with fail
  refine aJ.o.mono ?_;rintro e w2 ⟨v2,rfl,aw,av⟩;obtain⟨q2,c2,bl,_⟩:=rU aw;subst bl;have aF:=za aw;obtain⟨M,ag⟩:=zD J.length;rw[ag.o]at aF ab |-;have bg:=za (HB.o.trans (av.mono HB.o.size));have bs:=za (tt HO.o av);clear aw av ar;go_wp2;go_loopw [3,36] (λo i wq=>∃(t:Nat),t<=M/\i=.int .i64 t/\Hid (wq.ownsRow w 3 1 o (Nf s j (J.take t)).length (ints (Nf s j (J.take t))))/\Hid (wq.ownsRow wr 112 2 (q2,M,c2) M (ents J))/\Hid (Below w w wq)) (λ_ i _=>M-(intOf i).toNat)
  .exact⟨0,yh _,rfl,by show World.ownsRow _ _ _ _ _ _ _;rw[xH];show World.ownsRow _ _ _ _ _ j.length (ints j);rw[HL.o];exact bs.o,aF.o,bg.o⟩
  .obtain⟨t,ht,rfl,Q,ak,ai⟩:=hrel;obtain⟨sd,Y,aa⟩:=OQ (l:=J.take t) a1.o.1 (λx hx=>ab.o.2 x (xI hx));obtain⟨P,U⟩:=zD (Nf s j (J.take t));rw[U.o]at Q sd Y aa;rw[Ni,ag.o,HL.o]at aa;rw[HL.o]at Y;have b6:=ab.o.1;have am:P.length<=64:=(by omega);obtain⟨qo,co,bn,_⟩:=rU Q.o;subst bn;obtain⟨LO,D⟩:=zD P.length;rw[D.o]at Q am Y aa |-;have bu:=za sd;by_cases be:t<M
   .have a0:t<J.length:=(by rw[ag.o];exact be);have S:=K3 s (J.take t) j J[t];rw[zU a0,U.o]at S;obtain⟨nm,O,hx⟩:∃nm O,J[t]=(nm,O):=⟨_,_,rfl⟩;rw[hx]at S;have af:=ab.o.2 _ (Nj a0);rw[hx]at af;obtain⟨x,bf⟩:∃x:Nat,O=(x:Int)+1:=⟨(O-1).toNat,by have:=af.1;show O=((O-1).toNat:Int)+1;have h3:1<=O:=this;omega⟩;subst bf;have ap:x<32:=(by have h3:(x:Int)+1<=32:=af.2;omega);have ex:((x:Int)+1-1).toNat=x:=(by omega);obtain⟨N,HN⟩:=zD (s.nodes.getD x zN);have aI:s.nodes[x]?=some N:=(by rw[<-HN.o];exact ju (by rw[aK.o];exact ap));have aA:nS s (x+1)=decide (N.k=2):=(by unfold nS;rw[ex,HN.o]);rw[show ((nm,(x:Int)+1):En).2=(x:Int)+1 from rfl,aA]at S;obtain⟨ge,bF,ba,b5,b7⟩:=ak.o.form (by omega);injection ba with e1 e2 e3;subst e1 e3;clear e2;have ah:=fU J t a0;rw[hx]at ah;have G:∀r,(⟨ge,0,none⟩:Addr).add r=⟨ge,r,none⟩:=λr=>(by unfold Addr.add;split<;>simp_all);have c0:wr.cell? (ge,t*2)=some (.string nm):=(by rw[<-G];exact ak.o.cells (g:=ge) rfl _ _ ah.1);have c1:wr.cell? (ge,t*2+1)=some (.int .i64 (x+1)):=(by rw[<-G];exact ak.o.cells (g:=ge) rfl _ _ ah.2);have Z:Hid (Below wr wr (wr.alloc (.cells #[.string nm,.int .i64 (x+1)] 112))):=zB.alloc zL _;have I:=za (KR (H.o.below (zi ai.o Z.o)) x ap N aI);have C:=za S;clear ah G S af aA aI hx sd;have E:=za (λ(W:World) (hW:Below wr wr W)=>(show _/\_/\_ from ⟨tt Q.o hW,tt ak.o hW,zi ai.o hW⟩));by_cases T:N.k=0
    .have hs:Va N=.tuple #[.agg #[(),(),(),(),(),()],(4:Int)]:=(by unfold Va;rw[ze T]);rw[hs]at I;have B:decide (N.k=2)=false:=zJ (by omega);rw[B]at C;clear hs B T;go_wp2_with fail
     refine I.o.mono ?_;rintro e w5 ⟨rfl,y⟩;have z:=za (E.o _ (zi Z.o (y.alloc y.size (.cells #[(),(),(),(),(),()] 52))));have A:Hid (Nf s j (J.take (t+1))=P):=(by show _=_;rw[C.o];exact rfl);clear y;go_wp2;go_roundw
     .exact⟨t+1,by omega,by go_num,by show World.ownsRow _ _ _ _ _ _ _;rw[A.o,D.o];exact z.o.1,z.o.2.1,z.o.2.2⟩
     .simp[intOf];omega
    have hs:Va N=.tuple #[.agg #[N.k,N.m,N.u,N.g,N.s,N.l],()]:=(by unfold Va;rw[zb T]);rw[hs]at I;by_cases B:N.k=2;case neg=>
     have b2:(N.k==2)=false:=(by simpa using B);have X:=zJ B;rw[X]at C;clear hs B T X;go_wp2_with fail
     refine I.o.mono ?_;rintro e w5 ⟨rfl,y⟩;have z:=za (E.o _ (zi Z.o (y.alloc y.size (.cells #[N.k,N.m,N.u,N.g,N.s,N.l] 52))));have A:Hid (Nf s j (J.take (t+1))=P):=(by show _=_;rw[C.o];exact rfl);clear y;go_wp2;go_roundw
     .exact⟨t+1,by omega,by go_num,by show World.ownsRow _ _ _ _ _ _ _;rw[A.o,D.o];exact z.o.1,z.o.2.1,z.o.2.2⟩
     .simp[intOf];omega
    have b2:(N.k==2)=true:=(by simp[B]);have X:=zX B;rw[X]at C;clear hs B T X;go_wp2_with fail
    refine I.o.mono ?_;rintro e w5 ⟨rfl,y⟩;have z:=za (E.o _ (zi Z.o (y.alloc y.size (.cells #[N.k,N.m,N.u,N.g,N.s,N.l] 52))));have al:=za (Zp (qo,LO,co) P ((x:Int)+1) _ (by have h1:=uq.of_owns z.o.1;unfold tP;rw[D.o];exact h1) (by rw[D.o];omega));have bY:w5.cell? (wr.heap.size,1)=some (.int .i64 (x+1)):=(y.cell (p:=⟨wr.heap.size,1,none⟩) (by simp)).trans (by rw[zC (zO wr _)];rfl);have aE:wr.heap.size<w5.heap.size:=(by have:=y.size;simp at this;omega);have bS:¬wr.heap.size=w5.heap.size:=(by omega);have bT:¬w5.heap.size=wr.heap.size:=(by omega);have bo:Hid (Below wr wr ((w5.alloc (.cells #[N.k,N.m,N.u,N.g,N.s,N.l] 52)).alloc (.cells #[.int .i64 (x+1)] 3))):=(zi Z.o (y.alloc y.size (.cells #[N.k,N.m,N.u,N.g,N.s,N.l] 52))).alloc (by have:=aE;simp;omega) _;clear y;cases aj:P.contains ((x:Int)+1) with
    | true=>
     rw[aj]at al C;clear aj;have A:Hid (Nf s j (J.take (t+1))=P):=(by show _=_;rw[C.o];rfl);go_wp2_with fail
     refine al.o.mono ?_;rintro e w6 ⟨rfl,rfl⟩;go_wp2;go_roundw
     .exact⟨t+1,by omega,by go_num,by show World.ownsRow _ _ _ _ _ _ _;rw[A.o,D.o];exact z.o.1,z.o.2.1,z.o.2.2⟩
     .simp[intOf];omega
    | false=>
     rw[aj]at al C;clear aj;have A:Hid (Nf s j (J.take (t+1))=P++[(x:Int)+1]):=(by show _=_;rw[C.o];rfl);go_wp2_with fail
     refine al.o.mono ?_;rintro e w6 ⟨rfl,rfl⟩;have br:=za (zv ai.o.size (pm aE));have aL:(ints P)++[Value.int .i64 (x+1)]=ints (P++[(x:Int)+1]):=(by simp[ints]);have bq:=za aL;have bt:Hid (((w5.alloc (.cells #[N.k,N.m,N.u,N.g,N.s,N.l] 52)).alloc (.cells #[.int .i64 (x+1)] 3)).heap[w5.heap.size+1]?=some (.cells #[.int .i64 (x+1)] 3)):=wh _ _ _;have b0:=za (tt z.o.1 (zB.alloc zL (.cells #[.int .i64 ((x:Int)+1)] 3)));have K:=za (E.o ((w5.alloc (.cells #[N.k,N.m,N.u,N.g,N.s,N.l] 52)).alloc (.cells #[.int .i64 ((x:Int)+1)] 3)) bo.o);clear aL;go_wp2_with (at_builtin;refine yw _ rfl _ _ 33 rfl w.heap.size 3 i0 (.int .i64 0) 1 8 qG bz.o bb.o aX.o bh.o rfl (by decide) _ _ _ rfl b0.o ⟨w5.heap.size+1,0,none⟩ 1 1 [.int .i64 ((x:Int)+1)] rfl rfl (xF (cs:=#[.int .i64 ((x:Int)+1)]) (t:=3) (fr:=(0,0)) bt.o) (by simp[Value.oneCell']) (by unfold maxLen;omega) (by omega) (by have:=br.o;simp;omega) ?_;intro v8 w8 ao V a9)
     have aV:Hid (w8.ownsRow w 3 1 v8 (LO+1) (ints (P++[(x:Int)+1]))):=(by show World.ownsRow _ _ _ _ _ _ _;rw[<-bq.o];exact ao);have ay:yK (λr=>(Value.slice qo LO co).ownBlock=some r) _ w8:=yK.grown V λr hr=>hr;have aW:=za (vE K.o.2.1 λb hb=>ay.block b (K.o.2.1.lt b hb).2 (λhc=>by obtain⟨bH,aR⟩:=kV K.o.1 b hc;exact tK K.o.2.1 aR (by decide) b hb rfl));have bj:=za (K.o.2.2.trans (ay.to_below (λr hr=>(K.o.1.lt r hr).1) K.o.2.2.size));clear ao V a9 ay;go_wp2;go_roundw
     .exact⟨t+1,by omega,by go_num,by show World.ownsRow _ _ _ _ _ _ _;rw[A.o,zl,D.o];exact aV.o,aW.o,bj.o⟩
     .simp[intOf];omega
   .obtain rfl:t=M:=(by omega);have aZ:Hid (Nf s j J=P):=(by show _=_;rw[<-U.o,zo (wZ ag.o)]);have aq:=b3.o;rw[aZ.o]at aq;have aO:=za aq;clear aq sd;go_wp2;go_roundw
    .exact⟨k+1,f,P,by omega,by omega,by go_num,by rw[D.o];exact am,⟨bu.o,aO.o⟩,by show World.ownsRow _ _ _ _ _ _ _;rw[D.o];exact Q.o,ai.o⟩
    .simp[intOf];omega
