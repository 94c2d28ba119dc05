import Derived.Test.YtpcedcnjofbgjaaGreatDoorKB10
import Derived.Test.YtpcedcnjofbgjaaGreatDoorKC7
set_option maxHeartbeats 0
set_option linter.all false
set_option maxRecDepth 100000
namespace Go.Proofs.YtpcedcnjofbgjaaGreatDoor
open Go.Proofs.Tryz Go.RowKit
theorem QL {A B:Nat->AN}:∀j,(∀i,i<j->A i=B i)->Zn A j=Zn B j
 | 0,_=>rfl
 | j+1,h=>by unfold Zn;rw[QL j λi a=>h i (by omega),h j (by omega)]
theorem Om {U V:Nat->Nat} (s) (h:∀u,U u=V u):∀n,NX U s n=NX V s n
 | 0=>rfl
 | n+1=>by unfold NX;rw[Om s h n,h]
theorem nP {A B:Nat->AN} {U V:Nat->Nat} (h:∀i,i<32->A i=B i) (a:∀u,U u=V u):allT A U=allT B V:=by unfold allT;rw[QL 32 h,Om _ a]
section
variable {s : Fs} {c i j : Nat} {A B : Nat->AN} {a b : ByteArray}
theorem SI.one (g:SI s c A) {d:Nat} (e:SI s d B) {m:Nat} (f:m<32):A m=B m:=by have a:=g.A_at f;have b:=e.A_at f;exact AN.ext (a.1.symm.trans b.1) (a.2.1.symm.trans b.2.1) (a.2.2.1.symm.trans b.2.2.1) (a.2.2.2.1.symm.trans b.2.2.2.1) (a.2.2.2.2.1.symm.trans b.2.2.2.2.1) (a.2.2.2.2.2.1.symm.trans b.2.2.2.2.2.1) (a.2.2.2.2.2.2.1.symm.trans b.2.2.2.2.2.2.1) (a.2.2.2.2.2.2.2.symm.trans b.2.2.2.2.2.2.2)
end
section
variable {s : Fs} {c i j : Nat} {A B : Nat->AN} {a b : ByteArray}
structure MvR (s s1:Fs) (c:Nat) (i j:Nat) (a b:ByteArray) (A A1:Nat->AN) (n:Nat):Prop where
 n32:n<32
 si:SI s1 (c+1) A1
 gi:GI A1 λ_=>0
 ki:(A1 i).k=2
 kj:(A1 j).k=2
 kn:(A1 n).k≠0
 up:(A1 n).k=2->(A1 n).up=(j:Int)+1
 f1:(rI (dirB s1 j) b).1=(n:Int)+1
 f2:(rI (dirB s1 j) b).2.2=0
 back:((movM s1 j i (dirB s1 j) (dirB s1 i) b a).1=6\/(movM s1 j i (dirB s1 j) (dirB s1 i) b a).1=16)\/(movM s1 j i (dirB s1 j) (dirB s1 i) b a).1=0/\∃A2,SI (movM s1 j i (dirB s1 j) (dirB s1 i) b a).2 (c+2) A2/\(GI A2 λ_=>0)/\(∀m,m<32->A2 m=A m)/\∀u,nt (movM s1 j i (dirB s1 j) (dirB s1 i) b a).2.nodes u 32=nt s.nodes u 32
theorem si_mvR (hs:SI s c A) (g:GI A λ_=>0) (r:RI A) (nh:NHn s.nodes) (hc:c<=900) (hi:i<32) (aa:(A i).k=2) (hj:j<32) (ab:(A j).k=2) (ha:tM a=true) (hb:tM b=true) (ah:(rI (dirB s j) b).2.2≠0) (h0:(movM s i j (dirB s i) (dirB s j) a b).1=0):
 ∃A1 n,MvR s (movM s i j (dirB s i) (dirB s j) a b).2 c i j a b A A1 n:=by
 obtain⟨e,n,F,rfl,K,h,G,Q,T,y,E,R,Z⟩:=CM hs g r (by omega) hi aa hj ab hb ah h0;obtain⟨V,P,M,N⟩:=back_A hs g r hi aa hj ab F K G T;have o:=Wv A i j n e.1 b;have D:(e.2-1).toNat=n:=by omega
 have x:(movA A i j n e.1 b none n).k=2->∀t,upI (movA A i j n e.1 b none) t i≠n:=λl t=>by
  rw[(o n).1]at l;have C:e∈kW (A i):=by unfold kW;rw[ze aa];exact F
  obtain⟨J,_,u3⟩:=g.upOf r hi C (by rw[D];exact l);rw[D]at J;have H:n≠0:=by omega
  have I:=r.noLoop hi aa H (n:=n) (by unfold upN;rw[J];omega);rw[IC (A:=A) (n:=n) (λm w=>by rw[(o m).2.2.2.2.2.1,zb (λhc=>w hc.1)]) t i I];exact I t
 have B:NHn (movM s i j (dirB s i) (dirB s j) e.1 b).2.nodes:=Db nh _ _ _ _ _ _;generalize (movM s i j (dirB s i) (dirB s j) e.1 b).2=s1 at *
 have d:=(o i).1.trans aa;have f:=(o j).1.trans ab;obtain⟨U,W,Y⟩:=I3 y E R (by omega) hi d hj f h P ha M x (by rw[show (e.1,(n:Int)+1)=e by rw[K]];exact V);refine⟨_,n,h,y,E,d,f,?_,?_,U,W,?_⟩
 .rw[(o n).1,<-D];exact g.ino i hi e (by unfold kW;rw[ze aa];exact F)
 .intro l;rw[(o n).2.2.2.2.2.1,ze ⟨rfl,(o n).1.symm.trans l⟩]
 .refine Y.imp id λ⟨X,S,O⟩=>⟨X,?_⟩;obtain⟨_,L,z,q2,_⟩:=y.movM E (by omega) hj f hi d b e.1 ha;have v:∀m,m<32->L m=A m:=λm w=>(z.one S w).trans (N m w);refine⟨L,z,q2,v,λu=>?_⟩;refine Ei hs z nh (Db B _ _ _ _ _ _) v (λm w l=>?_) u;have q:m≠i:=λhc=>l (by rw[hc];exact aa);have p:m≠j:=λhc=>l (by rw[hc];exact ab);rw[O,IF p q,Z,IF q p]
end
theorem ybyk (v) (l) (at_ at2 a b) (w) (h:mi w v l) (hl:l.length<=maxLen) (hs:∀x,x∈l->x.S.size<=maxLen):
 Calls prog 5 #[v,(at_:Int),(at2:Int),(a:Int),(b:Int)] w (κ w (.bool true)):=by
 have b6:=za (Pv w);have aS:=za (λW (q:Below w w W)=>Ri v l W (uq.below h q) hl hs);have a8:Hid (so l=true->∀W,Below w w W->Calls prog 12 #[v] W (λe w'=>∃gf ad F A,e=.returned (.tuple #[.pointer (some ⟨gf,0,none⟩),(ad:Addr)])/\FsAt w' gf (fB l) F ad/\SI (fB l) 40 A/\(GI A λ_=>0)/\RI A/\Below W W w'/\∀i,F i->w.heap.size<=i)):=λhb W q=>by obtain⟨h1,h2⟩:=Rj hb;obtain⟨A,h3,h4,h5⟩:=VQ l (by omega) h2 l.length zL;rw[xN]at h3;refine (TB v l W (uq.below h q) h1 h2).mono ?_;rintro e w' ⟨gf,ad,F,rfl,q1,q2,q3⟩;exact⟨gf,ad,F,A,rfl,q1,h3.mono h1 (by omega),h4,h5,q2,λi hi=>zv q.size (q3 i hi)⟩
 have b5:=za (Ik l);obtain⟨sb,bB⟩:=zD (so l);rw[bB.o]at aS a8;clear h hl hs;go_enter func5,ntmps5;go_wp2_with fail
 refine b6.o.mono ?_;rintro e w1 ⟨rfl,bl⟩;have aW:=za bl;clear bl;go_wp2_with fail
 refine (aS.o w1 aW.o).mono ?_;rintro e w2 ⟨rfl,aF⟩;have ao:=za (zi aW.o aF);clear aF;cases sb with
 | false=>
  go_wp2;go_ret;exact⟨rfl,ao.o⟩
 | true=>
 have bA:=za (a8.o rfl w2 ao.o);go_wp2_with fail
 refine bA.o.mono ?_;rintro e w3 ⟨gf,ad,F3,A,rfl,h3,s3,g3,r3,aK,f3⟩;generalize fB l=S at *
 have Q:=za (zi ao.o aK);have O:=za s3;have HG:=za g3;have HR:=za r3;have E:=za h3;have bh:=za f3;have HD:=za (WM h3 (s3.dirsOk g3));have P:=za (TF (s3.dirsOk g3));clear aK s3 g3 r3 h3 f3;go_wp2_with fail
 refine HD.o.mono ?_;rintro e w4 ⟨v4,rfl,J,bk⟩;obtain⟨ds,bS⟩:=zD (RA S);rw[bS.o]at J P;obtain⟨M,HM⟩:=zD ds.length;rw[HM.o]at J P;obtain⟨_,_,b7,bY⟩:=P.o;have ar:=za bk;obtain⟨g4,c4,b3,c6,_⟩:=J.form b7;subst b3;have aw:∀r,r<M->∃n,n<32/\(S.nodes.getD n zN).k=2/\w4.cell? ⟨g4,r,none⟩=some (.int .i64 (n+1)):=λr hr=>by
  have a0:r<ds.length:=by rw[HM.o];exact hr
  obtain⟨n1,n2,n3⟩:=P.o.1 _ (Nj a0);refine⟨(ds[r]-1).toNat,by omega,n3,?_⟩;have:=J.cells (g:=g4) rfl r (.int .i64 ds[r]) (by unfold ints;rw[xE,zk a0];rfl);have aU:(⟨g4,0,none⟩:Addr).add r=⟨g4,r,none⟩:=by unfold Addr.add;split<;>simp_all
  rw[aU]at this;rw[this]
  congr 2
  omega
 have a9:=tX at_ M (by omega) (by omega);have a5:=tX at2 M (by omega) (by omega);obtain⟨ia,a7⟩:∃n:Nat,pk at_ M=(n:Int):=⟨(pk at_ M).toNat,by omega⟩;obtain⟨ib,aQ⟩:∃n:Nat,pk at2 M=(n:Int):=⟨(pk at2 M).toNat,by omega⟩;have bj:=za (λW=>tW at_ M W (by omega) (by omega));have aN:=za (λW=>tW at2 M W (by omega) (by omega));rw[a7]at bj a9;rw[aQ]at aN a5;obtain⟨i,f,au,aD⟩:=aw ia (by omega);obtain⟨j,c,an,aG⟩:=aw ib (by omega);have k3:=xX aD;have k4:=xX aG;have bD:ia<(M:Int):=by omega
 have bM:ib<(M:Int):=by omega
 have b0:((M:Int)==0)=false:=by simp;omega
 have bW:=za (Q.o.trans (ar.o.mono Q.o.size));clear J bk aw a7 aQ a9 a5;go_wp2_with fail
 refine vg (by kernel_rfl) (by kernel_rfl) ?_
 repeat (first
  | go_big_quiet_skip
  | (refine sG 18 #[.tmp 44,.tmp 46] #[3,3] rfl rfl (λ_ _=>by kernel_rfl) #[at_,M] (by kernel_rfl) (.int .i64 (ia:Int)) (λ_ _=>vY) (λw' _=>(bj.o w').mono λe w2 ⟨he,al⟩=>⟨he,al▸zB⟩) ?_;simp only[Act.put,zP,yf,yb])
  | (refine sG 18 #[.tmp 51,.tmp 53] #[3,3] rfl rfl (λ_ _=>by kernel_rfl) #[at2,M] (by kernel_rfl) (.int .i64 (ib:Int)) (λ_ _=>vY) (λw' _=>(aN.o w').mono λe w2 ⟨he,al⟩=>⟨he,al▸zB⟩) ?_;simp only[Act.put,zP,yf,yb])
  | (go_big_quiet_want;go_big_quiet_op;go_big_quiet_on))
 refine vn ?_;intro w5 aJ;have bL:=za (ar.o.trans ((us aJ).mono ar.o.size));have X:Hid (∀W,Below w3 w3 W->Below w w W):=λW q=>Q.o.trans (q.mono Q.o.size);have aB:=(O.o.A_at f).1.symm.trans au;have a3:=(O.o.A_at c).1.symm.trans an;have bT:=za ((O.o.dirsOk HG.o).1 i f au);have aX:=za ((O.o.dirsOk HG.o).1 j c an);have az:=za aB;have a2:=za a3;have C:=za (pP a);have p:=za (pP b);have aH:=za (λW=>jZ a W);have U:=za (λW=>jZ b W);generalize nmOf a=K at *
 generalize nmOf b=y at *
 have aP:=za (λW (q:Below w3 w3 W)=>SK (E.o.below q) j _ _ aX.o y p.o);obtain⟨⟨ri,rl,rr⟩,Hr⟩:∃r,Hid (rI (dirB S j) y=r):=⟨_,za rfl⟩;rw[Hr.o]at aP;have ba:=za (λW (q:Below w3 w3 W)=>hQ (E.o.below q) (O.o.see HG.o));obtain⟨T,HT⟩:=zD (allT A (λu=>nt S.nodes (u:Int) 32));rw[HT.o]at ba;clear aJ au an aB a3 aD aG k3 k4;go_wp2_with fail
 refine (U.o w5).mono ?_;rintro e w6 ⟨rfl,aO⟩;have aA:=za (zi bL.o aO);clear aO;go_wp2_with fail
 refine (aP.o w6 aA.o).mono ?_;rintro e w7 ⟨rfl,bi⟩;have aq:=za (zi aA.o bi);clear bi;by_cases V:rr=0
 .subst V;go_wp2;go_ret;exact⟨rfl,X.o _ aq.o⟩
 have b1:(rr==0)=false:=by simpa using V
 have bP:Hid ((rI (dirB S j) y).2.2≠0):=by show _≠_;rw[Hr.o];exact V
 clear V;go_wp2_with fail
 refine (ba.o w7 aq.o).mono ?_;rintro e w8 ⟨rfl,a6⟩;have bC:=za (zi aq.o a6);clear a6;go_wp2_with fail
 refine (aH.o w8).mono ?_;rintro e w9 ⟨rfl,aC⟩;have b4:=za (zi bC.o aC);clear aC;go_wp2_with fail
 refine (U.o w9).mono ?_;rintro e c2 ⟨rfl,ai⟩;have D:=za (zi b4.o ai);clear ai;have z:=me (E.o.below D.o) i _ _ bT.o j _ _ aX.o K y C.o p.o (O.o.doOk HG.o (by omega) ⟨4,0,0,0,⟨#[]⟩⟩ (by decide)).up (O.o.movM HG.o (by omega) f az.o c a2.o K y p.o).1;have aM:Hid ((movM S i j (dirB S i) (dirB S j) K y).1=0->∃N n,MvR S (movM S i j (dirB S i) (dirB S j) K y).2 40 i j K y A N n):=λh0=>si_mvR O.o HG.o HR.o b5.o (by omega) f az.o c a2.o C.o p.o bP.o h0;have be:Hid ((movM S i j (dirB S i) (dirB S j) K y).1≠0->(movM S i j (dirB S i) (dirB S j) K y).2=S):=λh0=>JI _ _ h0;obtain⟨⟨re,s1⟩,HM⟩:∃r,Hid (movM S i j (dirB S i) (dirB S j) K y=r):=⟨_,za rfl⟩;rw[HM.o]at z aM be;have av:=za z;clear z;go_wp2_with fail
 refine av.o.mono ?_;rintro e d ⟨rfl,F',bf,hF,hK⟩;have G:=za bf;have bz:Hid (∀x,F' x->w.heap.size<=x):=λx hx=>(hF x hx).elim (λh=>bh.o x h) λh=>zv (X.o _ D.o).size h;have I:=za ((X.o _ D.o).trans (hK.to_below (λx hx=>bh.o x hx) (X.o _ D.o).size));clear bf hK hF;by_cases Y:re≠0
 .have b2:(re==0)=false:=by simpa using Y
  have bE:=be.o Y;subst bE;have aI:=za (hQ G.o (O.o.see HG.o));rw[HT.o]at aI;clear Y;go_wp2_with fail
  refine aI.o.mono ?_;rintro e bm ⟨rfl,t⟩;have B:=za (zi I.o t);clear t;go_wp2;go_ret;exact⟨by simp,B.o⟩
 obtain rfl:re=0:=MC.1 Y;obtain⟨N,n,R⟩:=aM.o rfl;have HQ:=za R;have hn:=R.n32;have HW:=za (λW (q:Below d d W)=>I.o.trans (q.mono I.o.size));have aj:=(R.si.A_at c).1.trans R.kj;have Z:=(R.si.A_at f).1.trans R.ki;have aR:=za ((R.si.dirsOk R.gi).1 i f Z);have ab:=za ((R.si.dirsOk R.gi).1 j c aj);have aL:=za (λW (q:Below d d W)=>SK (G.o.below q) j _ _ ab.o y p.o);rw[R.f1,R.f2]at aL;have bn:=za (λW (q:Below d d W)=>WT (G.o.below q) (R.si.see R.gi) R.n32);rw[zb R.kn]at bn;have am:=za (λW (q:Below d d W)=>fs_Up (G.o.below q) n R.n32 _ (R.si.node R.n32));rw[(R.si.A_at R.n32).1,(R.si.A_at R.n32).2.2.2.2.2.2.1]at am;have bK:=R.up;have ch:=R.kn;have bb:=za (λW (q:Below d d W)=>me (G.o.below q) j _ _ ab.o i _ _ aR.o y K p.o C.o (R.si.doOk R.gi (by omega) ⟨4,0,0,0,⟨#[]⟩⟩ (by decide)).up (R.si.movM R.gi (by omega) c R.kj f R.ki y K C.o).1);have aV:=za R.back;obtain⟨⟨rf,s2⟩,bN⟩:∃r,Hid (movM s1 j i (dirB s1 j) (dirB s1 i) y K=r):=⟨_,za rfl⟩;rw[bN.o]at bb aV;generalize (N n).k=xk at *
 generalize (N n).up=xu at *
 generalize (N n).m=xm at *
 generalize (N n).u=xo at *
 generalize (N n).g=xg at *
 generalize (N n).s=xs at *
 generalize (N n).l=xl at *
 clear R Z aj;go_wp2_with fail
 refine (U.o d).mono ?_;rintro e bm ⟨rfl,t⟩;have B:=za t;clear t;go_wp2_with fail
 refine (aL.o bm B.o).mono ?_;rintro e bF ⟨rfl,ak⟩;have aa:=za (zi B.o ak);clear ak;go_wp2_with fail
 refine (bn.o bF aa.o).mono ?_;rintro e cx ⟨rfl,ae⟩;have ah:=za (zi aa.o ae);have a1:=za (ah.o.alloc ah.o.size (.cells #[xk,xm,xo,xg,xs,xl] 52));clear ae;by_cases hk:xk=2
 case' pos=>
  subst hk;rw[ze rfl,zb (by decide),ze rfl,bK rfl]at am;go_wp2_with fail
  refine (am.o _ a1.o).mono ?_;rintro e co ⟨rfl,rfl⟩
 case' neg=>have c5:(xk==2)=false:=by simpa using hk
 all_goals
  go_wp2_with fail
  refine (U.o _).mono ?_;rintro e bJ ⟨rfl,ac⟩;have aY:=za (zi a1.o ac);clear ac;go_wp2_with fail
  refine (aH.o bJ).mono ?_;rintro e bO ⟨rfl,af⟩;have L:=za (zi aY.o af);clear af;go_wp2_with fail
  refine (bb.o bO L.o).mono ?_;rintro e cB ⟨rfl,F2,aZ,_,bg⟩;have bw:=za aZ;have H:=za ((HW.o _ L.o).trans (bg.to_below (λx hx=>bz.o x hx) (HW.o _ L.o).size));clear aZ bg;rcases aV.o with (h6|h6)|⟨h0,A2,q1,q2,q3,q4⟩
  .subst h6;go_wp2;go_ret;exact⟨by simp,H.o⟩
  .subst h6;go_wp2;go_ret;exact⟨by simp,H.o⟩
  .subst h0;have E:=za (hQ bw.o (q1.see q2));rw[nP q3 (λu=>q4 (u:Int)),HT.o]at E;clear q1 q2 q3 q4;go_wp2_with fail
   refine E.o.mono ?_;rintro e cr ⟨rfl,ag⟩;have bc:=za (zi H.o ag);clear ag;go_wp2;go_ret;exact⟨by simp,bc.o⟩
