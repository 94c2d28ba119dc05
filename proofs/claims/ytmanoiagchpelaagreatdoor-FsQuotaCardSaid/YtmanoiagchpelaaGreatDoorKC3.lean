import Derived.Test.YtmanoiagchpelaaGreatDoorKA42
import Derived.Test.YtmanoiagchpelaaGreatDoorKC1
import Derived.Test.YtmanoiagchpelaaGreatDoorKC2
set_option maxHeartbeats 0
set_option linter.all false
set_option maxRecDepth 100000
namespace Go.Proofs.YtmanoiagchpelaaGreatDoor
open Go.Proofs.Tryz Go.RowKit
variable {s:Fs}
theorem I7 (x):∀j,(qC x j).nodes=x.nodes/\(qC x j).rows=x.rows
 | 0=>⟨rfl,rfl⟩
 | j+1=>by obtain⟨a,b⟩:=I7 x j;unfold qC;exact⟨a,b⟩
theorem Uy (k) (x):(endT k x).nodes=x.nodes/\(endT k x).rows=x.rows:=by obtain⟨a,b⟩:=I7 (kF (vP k x 16)) x.gone.length;obtain⟨c,_,_,_,d⟩:=VT k x 16;exact⟨a.trans c,b.trans d⟩
def ut (s s':Fs):Prop:=(s'.nodes=s.nodes/\s'.rows=s.rows)\/∃x,x.rows=s.rows/\mD s x=true/\s'.nodes=x.nodes/\s'.rows=s.rows
theorem ut.ends (s) (x) (h:x.rows=s.rows):ut s (endS s x):=by
 unfold endS;split
 .next a=>
  refine zu ⟨x,h,?_,(Uy s.k x).1,(Uy s.k x).2.trans h⟩;unfold endE at a;cases b:mD s x with
  | true=>rfl
  | false=>rw[ze b]at a;cases a
 .exact zr ⟨rfl,rfl⟩
theorem ut.stay (s):ut s s:=zr ⟨rfl,rfl⟩
theorem OV {x:Tx} (h:mD s x=true) (u):ofQ s.rows u = -1\/tr x.nodes u 32<=tr s.nodes u 32\/(tr x.nodes u 32)<=ofQ s.rows u:=by
 by_cases c:ofQ s.rows u = -1
 .exact zr c
 .obtain⟨A,B,e⟩:=P5 c;have b:(u,ofQ s.rows u)∈A++(u,ofQ s.rows u)::B:=by simp
  rw[<-e]at b;have:=yW.1 h _ b;unfold fitQ at this;have a:=sM this;unfold mayQ at a;dsimp only at a;split at a
  .cases a
  .omega
theorem ut.may {s':Fs} (h:ut s s') (u):(ofQ s.rows u = -1\/tr s'.nodes u 32<=tr s.nodes u 32\/(tr s'.nodes u 32)<=ofQ s.rows u)/\s'.rows=s.rows:=by
 rcases h with⟨a,b⟩|⟨x,a,b,c,d⟩
 .exact⟨zu (zr (by rw[a];exact zL)),b⟩
 .rw[c];exact⟨OV b u,d⟩
theorem X6 (x:Tx) (s) (i) (e):(x.entX s i e).rows=x.rows:=by unfold Tx.entX Tx.fillX Tx.wow;try rfl
theorem ut.add (s) (i) (D) (name) (k m u g) (b):ut s (addM s i D name k m u g b).2:=by
 unfold addM;split
 .split
  .exact ut.stay s
  .dsimp only;split
   .exact ut.ends s _ (by rw[X6];unfold addT;(try split)<;>rfl)
   .exact ut.stay s
 .exact ut.stay s
theorem ut.unl (s) (i) (D) (name):ut s (unlM s i D name).2:=by
 unfold unlM;dsimp only;split
 .split
  .exact ut.stay s
  .exact ut.ends s _ (by rw[UA,jO];rfl)
 .exact ut.stay s
theorem ut.lnk (s) (i n) (D) (name):ut s (lnkM s i n D name).2:=by
 unfold lnkM;dsimp only
 repeat' split
 all_goals first|exact ut.stay s|exact ut.ends s _ (by rw[X6];rfl)
theorem RS (s) (i j n) (a b) (o):(movX s i j n a b o).rows=s.rows:=by
 have c:(movX s i j n a b o).rows=(movT s i j a b o).rows:=by unfold movX movY;split<;>rfl
 rw[c];cases o with
 | none=>exact jO _ _ _ _
 | some m=>exact (UA _ _ _).trans ((jO _ _ _ _).trans (jO _ _ _ _))
theorem ut.mov (s) (i j) (D E) (a b):ut s (movM s i j D E a b).2:=by
 unfold movM;split
 .unfold movR
  repeat' split
  all_goals first|exact ut.stay s|exact ut.ends s _ (RS ..)
 .exact ut.stay s
theorem ut.wrt (s) (i p) (Dt):ut s (wrtM s i p Dt).2:=by
 unfold wrtM;dsimp only
 repeat' split
 all_goals first|exact ut.stay s|exact ut.ends s _ rfl
theorem ut.cut (s) (i sz):ut s (cutM s i sz).2:=by
 unfold cutM;dsimp only
 repeat' split
 all_goals first|exact ut.stay s|exact ut.ends s _ (by unfold cutT;rfl)
theorem ut.owns (s) (i) (u g):ut s (ownM s i u g).2:=by
 unfold ownM;dsimp only;split
 .exact ut.stay s
 .exact ut.ends s _ rfl
theorem ut.snap (s):ut s (mC s).2:=by
 unfold mC;split
 .exact ut.ends s _ rfl
 .exact ut.stay s
theorem ut.forg (s) (k):ut s (lO s k).2:=by
 unfold lO;split
 .exact ut.ends s _ rfl
 .exact ut.stay s
theorem JP (s) (u lim):(ol s u lim).2.nodes=s.nodes/\((ol s u lim).1=0->(ol s u lim).2.rows=setQ s.rows u lim)/\((ol s u lim).1≠0->(ol s u lim).2.rows=s.rows):=by
 unfold ol;split
 .exact⟨rfl,(fun h=>by cases h),fun _=>rfl⟩
 .unfold endS;dsimp only;split
  .next a=>exact⟨(Uy s.k _).1,fun _=>(Uy s.k _).2,fun h=>zY a h⟩
  .next a=>exact⟨rfl,fun h=>zY h a,fun _=>rfl⟩
theorem Xa (s) (x):(pk x.K 12≠9/\ut s (doM s x).2)\/(pk x.K 12=9/\doM s x=ol s (pk x.B 3) (pk x.C 20-1)):=by
 by_cases a:pk x.K 12=9
 .refine zu ⟨a,?_⟩;unfold doM;rw[a];rfl
 .refine zr ⟨a,?_⟩;unfold doM;dsimp only;split
  .exact ut.add ..
  .exact ut.add ..
  .split
   .exact ut.stay s
   .exact ut.wrt ..
  .exact ut.unl ..
  .exact ut.mov ..
  .split
   .exact ut.stay s
   .exact ut.cut ..
  .split
   .exact ut.stay s
   .exact ut.lnk ..
  .unfold symM;split
   .exact ut.stay s
   .exact ut.add ..
  .split
   .exact ut.stay s
   .exact ut.owns ..
  .next h=>exact zY (by have:=ru x.K 12 (by omega) (by omega);omega) a
  .exact zr ⟨rfl,rfl⟩
  .split
   .exact ut.snap s
   .exact ut.forg ..
theorem QL (s) (x) (u):ofQ (doM s x).2.rows u=if pk x.K 12=9/\pk x.B 3=u/\(doM s x).1=0 then pk x.C 20-1 else ofQ s.rows u:=by
 rcases Xa s x with⟨f,h⟩|⟨f,h⟩
 .rw[zb (fun c=>f c.1),(h.may u).2]
 .rw[h];obtain⟨_,a,b⟩:=JP s (pk x.B 3) (pk x.C 20-1);by_cases d:(ol s (pk x.B 3) (pk x.C 20-1)).1=0
  .rw[a d];by_cases e:pk x.B 3=u
   .rw[ze ⟨f,e,d⟩,<-e];exact set_of ..
   .rw[zb (fun c=>e c.2.1)];exact Py _ _ _ _ e
  .rw[zb (fun c=>d c.2.2),b d]
theorem SA (s) (x) (u):¬(0<=ofQ (doM s x).2.rows u/\tr s.nodes u 32<tr (doM s x).2.nodes u 32/\ofQ (doM s x).2.rows u<(tr (doM s x).2.nodes u 32)):=by
 rcases Xa s x with⟨_,h⟩|⟨_,h⟩
 .obtain⟨a,b⟩:=h.may u;rw[b];omega
 .rw[h,(JP s _ _).1];omega
theorem SI.used_ok {c:Nat} {A:Nat->AN} (h:SI s c A):∀X∈s.nodes,X.P.length<=8:=fun X a=>by obtain⟨i,b,rfl⟩:=(h.tv []).ti.mem (x:=tx0 s) a;exact fld8 ((h.tv []).ti.nd i b)
theorem ybvt (v) (l) (n1) (w) (h:pM w v l) (hl:l.length<=maxLen) (hs:∀x,x∈l->x.S.size<=maxLen):
 Calls prog 4 #[v,.int .i64 n1] w (fun e w'=>e=.returned (.bool true)/\Below w w w'):=by
 have aI:=za (W7 w);have ak:=za (fun W (U:Below w w W)=>Wq v l W (wh.below h U) hl hs);have ac:Hid (ly l=true->l.length<=40/\(∀x∈l,x.S.size<=300)/\∀k,k<=l.length->∃A,SI (rc (l.take k)) k A/\GI A fun _=>0):=fun hb=>by obtain⟨h1,h2⟩:=Ws hb;exact⟨h1,h2,Y9 l (by omega) h2⟩
 obtain⟨N,HN⟩:=zA l.length;obtain⟨p,cp,hv,hp⟩:=Ul h N HN.o;subst hv;have HP:=za hp;obtain⟨d,av,I⟩:∃k:Int,pk n1 3=k/\0<=k/\k<3:=by have:=ru n1 3 (by omega) (by omega);exact⟨pk n1 3,rfl,this⟩
 have aF:Hid (∀W,Calls prog 20 #[n1,(3:Int)] W (fun e w'=>e=.returned d/\W=w')):=fun W=>by rw[<-av];exact pB n1 3 W (by omega) (by omega)
 have HU:=za I;obtain⟨sb,aL⟩:=zD (ly l);rw[aL.o]at ak ac;clear h hl hs hp av I;go_enter func4,ntmps4;go_wp2_with fail
 refine aI.o.mono ?_;rintro e w1 ⟨rfl,a0⟩;have an:=za a0;clear a0;go_wp2_with fail
 refine (ak.o w1 an.o).mono ?_;rintro e w2 ⟨rfl,ag⟩;have M:=za (zf an.o ag);clear ag;cases sb with
 | false=>
  go_wp2;go_ret;exact⟨rfl,M.o⟩
 | true=>
 obtain⟨H,u,q⟩:=ac.o rfl;have HL:=za H;have HS:=za u;have aw:=za q;have aG:=za (KO 96 (by omega) (by omega) w2);clear H u q;go_wp2_with fail
 refine aG.o.mono ?_;rintro e w3 ⟨gf,a,F1,rfl,h1,ah,al⟩;have H1:Hid (FsAt w3 gf (rc (l.take 0)) F1 a):=h1;have aO:=za (zf M.o ah);have aA:Hid (∀i,F1 i->w.heap.size<=i):=fun i hi=>zt M.o.size (al i hi);clear h1 ah al;go_wp2_with fail
 refine (aF.o w3).mono ?_;rintro e bz ⟨rfl,rfl⟩;go_wp2;go_loopw [7,30] (fun lv i wr=>∃(k:Nat) (n:Int),k<=N/\i=.int .i64 k/\lv=.int .i64 n/\Hid (n=ofQ (rc (l.take k)).rows d)/\Hid (∃F,FsAt wr gf (rc (l.take k)) F a/\∀i,F i->w.heap.size<=i)/\Hid (Below w w wr)) (fun _ i _=>N-(intOf i).toNat);case atStart=>exact⟨0,-1,ye _,rfl,rfl,za rfl,⟨F1,H1.o,aA.o⟩,aO⟩
 case round=>
  obtain⟨k,n,hk,rfl,rfl,aY,HF,V⟩:=hrel;by_cases aE:k<N
  .obtain⟨g,o,rfl,hg,z⟩:=HP.o (by omega);have T:k<l.length:=(by rw[<-HN.o];exact aE);obtain⟨q1,q2,q3,q4,q5⟩:=z k T;obtain⟨x,Hx⟩:=zD (l[k]);rw[Hx.o]at q1 q2 q3 q4 q5;have c1:=(V.o.cell (p:=⟨g,o+k*5,none⟩) hg).trans q1;have c2:=(V.o.cell (p:=⟨g,o+(k*5+1),none⟩) hg).trans q2;have c3:=(V.o.cell (p:=⟨g,o+(k*5+2),none⟩) hg).trans q3;have c4:=(V.o.cell (p:=⟨g,o+(k*5+3),none⟩) hg).trans q4;have c5:=(V.o.cell (p:=⟨g,o+(k*5+4),none⟩) hg).trans q5;rw[<-yC]at c2 c3 c4 c5;obtain⟨F,hF,ai⟩:=HF.o;obtain⟨A0,q,ae⟩:=aw.o k (by omega);have ar:x.S.size<=300:=(by rw[<-Hx.o];exact HS.o _ (zx T));have e1:rc (l.take (k+1))=(doM (rc (l.take k)) x).2:=(by rw[<-Jd,<-Hx.o,zR T]);have G:Hid (∃A,SI (rc (l.take (k+1))) (k+1) A):=(by obtain⟨A,h,_⟩:=aw.o (k+1) (by omega);exact⟨A,h⟩);have t:=za (fun (W:World) (U:Below wr wr W)=>do_SI (hF.below U) q ae (by have:=HL.o;omega) x ar);have L:=za (fun (W:World) (U:Below wr wr W)=>Y3 (hF.below U) q.used_ok d (by have:=HU.o;omega));have j:=za (SA (rc (l.take k)) x d);have f:=za (QL (rc (l.take k)) x d);rw[<-aY.o]at f;rw[<-e1]at t j f;have aT:=za hF.fin;obtain⟨R,X⟩:=zD (rc (l.take (k+1)));obtain⟨S0,a9⟩:=zD (rc (l.take k));rw[X.o]at t j f G;rw[a9.o]at t j f L;obtain⟨er,aC⟩:=zD ((doM S0 x).1);obtain⟨U0,aB⟩:=zD (tr S0.nodes d 32);obtain⟨U1,ad⟩:=zD (tr R.nodes d 32);obtain⟨b,E⟩:=zD (ofQ R.rows d);rw[aC.o]at t f;rw[aB.o]at L j;rw[ad.o]at j;rw[E.o]at j f;have ax:=za ai;obtain⟨m,A,B,C,S⟩:=x;clear z q1 q2 q3 q4 q5 hF ai q ae ar e1 HF;have ay:k<(N:Int):=(by omega);have bm:N<=40:=(by rw[HN.o];exact HL.o);have aq:Hid (Below wr wr (wr.alloc (.cells #[m,.int .i64 A,B,C,.string S] 30))):=zB.alloc zL _;have a5:Hid ((wr.alloc (.cells #[m,.int .i64 A,B,C,.string S] 30)).heap[wr.heap.size]?=some (.cells #[m,.int .i64 A,B,C,.string S] 30)):=zH;have aK:=za (L.o _ aq.o);go_wp2_with fail
   refine aK.o.mono ?_;rintro e Z ⟨rfl,Y⟩;have ap:=za (aq.o.trans (Y.mono (by simp)));have c:=za (wy Y a5.o);obtain⟨r,aj⟩:=zD wr.heap.size;rw[aj.o]at c ⊢;clear Y c1 c2 c3 c4 c5;have r0:Z.cell? (r,0)=some (.int .i64 m):=(by rw[zC c.o];rfl);have r1:Z.cell? (r,1)=some (.int .i64 A):=(by rw[zC c.o];rfl);have r2:Z.cell? (r,2)=some (.int .i64 B):=(by rw[zC c.o];rfl);have r3:Z.cell? (r,3)=some (.int .i64 C):=(by rw[zC c.o];rfl);have r4:Z.cell? (r,4)=some (.string S):=(by rw[zC c.o];rfl);have a6:=za (t.o _ ap.o);go_wp2_with fail
   refine a6.o.mono ?_;rintro e y ⟨rfl,F5,h5,f5,k5⟩;have au:Hid (r<Z.heap.size/\¬F r):=⟨xR c.o,fun z=>by have:=aT.o r z;have:=aj.o;omega⟩;have s:=za ((k5.block r au.o.1 au.o.2).trans c.o);have J:=za (zf V.o ap.o);have HX:Hid (∀i,F5 i->w.heap.size<=i):=fun i hi=>(f5 i hi).elim (ax.o i) (fun h=>zt J.o.size h);have aW:=za (J.o.trans (k5.to_below ax.o J.o.size));have ao:=za h5;clear h5 f5 k5 r0 r1 r2 r3 r4;have r0:y.cell? (r,0)=some (.int .i64 m):=(by rw[zC s.o];rfl);have r2:y.cell? (r,2)=some (.int .i64 B):=(by rw[zC s.o];rfl);have r3:y.cell? (r,3)=some (.int .i64 C):=(by rw[zC s.o];rfl);have K:Hid (∀W,Below y y W->Calls prog 21 #[(gf,()),d] W (fun e w'=>e=.returned (.tuple #[U1,()])/\Below W W w')):=fun W U=>(by obtain⟨A1,h1⟩:=G.o;have:=Y3 (ao.o.below U) h1.used_ok d (by have:=HU.o;omega);rw[ad.o]at this;exact this);have D:=za f.o;have bq:=ru C 20 (by omega) (by omega);have h4:pk m 12≠9\/(pk m 12=9/\pk B 3≠d)\/(pk m 12=9/\pk B 3=d/\er≠0)\/(pk m 12=9/\pk B 3=d/\er=0):=(by omega);rcases h4 with h|⟨h,P⟩|⟨h,P,h3⟩|⟨h,P,h3⟩
   case' inl =>have b1:(pk m 12==9)=false:=(by simpa using h);obtain rfl:b=n:=by have:=D.o;rw[zb (fun z=>h z.1)]at this;exact this
   case' inr.inl =>have b1:(pk m 12==9)=true:=(by simpa using h);have b2:(pk B 3==d)=false:=(by simpa using P);obtain rfl:b=n:=by have:=D.o;rw[zb (fun z=>P z.2.1)]at this;exact this
   case' inr.inr.inl =>have b1:(pk m 12==9)=true:=(by simpa using h);have b2:(pk B 3==d)=true:=(by simpa using P);have b3:(er==0)=false:=(by simpa using h3);obtain rfl:b=n:=by have:=D.o;rw[zb (fun z=>h3 z.2.2)]at this;exact this
   case' inr.inr.inr =>have b1:(pk m 12==9)=true:=(by simpa using h);have b2:(pk B 3==d)=true:=(by simpa using P);have b3:(er==0)=true:=(by simpa using h3);have i1:IntKind.i64.wrap (pk C 20-1)=b:=by have:=D.o;rw[ze ⟨h,P,h3⟩]at this;rw[this,zQ _ (by omega)]
   all_goals
    clear h;go_wp2_with fail
    refine (pB m 12 y (by omega) (by omega)).mono ?_;rintro e w6 ⟨rfl,rfl⟩;go_wp2_with fail
    first
     | refine (K.o y zB).mono ?_
     | (refine (pB B 3 y (by omega) (by omega)).mono ?_;rintro e w6 ⟨rfl,rfl⟩;go_wp2_with fail;first
      | refine (K.o y zB).mono ?_
      | (refine (pB C 20 y (by omega) (by omega)).mono ?_;rintro e w6 ⟨rfl,rfl⟩;go_wp2_with fail;refine (K.o y zB).mono ?_))
    rintro e w7 ⟨rfl,az⟩;have am:=za az;clear az r0 r2 r3;have Q:¬(0<=b)\/(0<=b/\¬U0<(U1:Int))\/(0<=b/\U0<(U1:Int)/\¬b<U1):=(by have:=j.o;omega);have HE:Hid (∃F,FsAt w7 gf R F a/\∀i,F i->w.heap.size<=i):=⟨F5,ao.o.below am.o,HX.o⟩;have O:=za (zf aW.o am.o);rcases Q with Q|⟨Q,h9⟩|⟨Q,h9,aH⟩
    .have d1:=zz Q;go_wp2;go_roundw;case rel=>exact⟨k+1,b,by omega,by go_num,rfl,E.o.symm.trans (by rw[X.o]),by rw[X.o];exact HE,O⟩
     case measure=>simp[intOf];omega
    .have d1:=ya Q;have d2:=zz h9;go_wp2;go_roundw;case rel=>exact⟨k+1,b,by omega,by go_num,rfl,E.o.symm.trans (by rw[X.o]),by rw[X.o];exact HE,O⟩
     case measure=>simp[intOf];omega
    .have d1:=ya Q;have d2:=ya h9;have d3:=zz aH;go_wp2;go_roundw;case rel=>exact⟨k+1,b,by omega,by go_num,rfl,E.o.symm.trans (by rw[X.o]),by rw[X.o];exact HE,O⟩
     case measure=>simp[intOf];omega
  .obtain rfl:k=N:=(by omega);have ay:¬k<(k:Int):=(by omega);go_wp2;go_ret;exact⟨rfl,V.o⟩
