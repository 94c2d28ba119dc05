import Derived.Test.YtpcedcnjofbgjaaGreatDoorKB8
import Derived.Test.YtpcedcnjofbgjaaGreatDoorKC4
set_option maxHeartbeats 0
set_option linter.all false
set_option maxRecDepth 100000
namespace Go.Proofs.YtpcedcnjofbgjaaGreatDoor
open Go.Proofs.Tryz Go.RowKit
theorem Wh (a):((if a.k=0 then 4 else if a.k=1 then 0 else 12)=oldE true a)/\Qz a=tu (oldD true a):=by
 unfold oldE oldD Qz;refine⟨by rw[ze rfl],?_⟩;by_cases h:a.k=1
 .rw[ze h,ze ⟨rfl,h⟩]
 .rw[zb h,zb λb=>h b.2];rfl
theorem Eg (th) (c) (b) (i):wasI th c b (i+1)=wasI th c b i++(numI (oldE th (c i))++tu (oldD th (c i))++⟨#[124]⟩):=rfl
theorem UE {w:World} {gf:Nat} {s:Fs} {F:Nat->Prop} {a:Addr} {A:Nat->AN} {C:Nat->Nat->AN} (hf:FsAt w gf s F a) (hs:ms s A) (ho:FQ s C) (k) (h1:1<=k) (h4:k<4) (aa:uB s.fo k=true) (g5 g7)
 (c5:w.cell? ⟨g5,0,none⟩=some (.pointer (some ⟨gf,0,none⟩))) (c7:w.cell? ⟨g7,0,none⟩=some (.int .i64 k)) (live) (c) (hc:∀i,i<32->c i=if live=true then A i else C k i):
 Calls prog 14 #[.bool live,.pointer (some ⟨g5,0,none⟩),.pointer (some ⟨g7,0,none⟩)] w (κ w (.string (wasI true c ⟨#[]⟩ 32))):=by
 have n:=za (λW (f:Below w w W) i (h:i<32)=>DH (hf.below f) ho k i h1 h4 h);rw[aa]at n;have M:=za (λW (f:Below w w W) i (h:i<32)=>WU (hf.below f) hs h);have V:Hid (∀i,i<32->(oldD true (C k i)).length<=512):=λi h=>by
  unfold oldD;split
  .let⟨X,_,_,e,_,_,_,h5⟩:=ho.node k h1 h4 aa i h;rw[<-e];have:=mM (secE s) X.P X.s;omega
  .exact yh _
 have L:Hid (∀i,i<32->(oldD true (A i)).length<=512):=λi h=>by
  unfold oldD;split
  .exact hs.dlen h
  .exact yh _
 have HC:=za hc;have G:=zy c5;have q:=zy c7;have u:Hid (∀W,Below w w W->W.cell? (g5,0)=some (.pointer (some ⟨gf,0,none⟩))/\W.cell? (g7,0)=some (.int .i64 k)):=λW f=>⟨(f.cell (p:=⟨g5,0,none⟩) G).trans c5,(f.cell (p:=⟨g7,0,none⟩) q).trans c7⟩;let⟨R,N⟩:=zD (wasI true c ⟨#[]⟩ 32);rw[N.o];clear hf hs ho aa hc c5 c7 G q;go_enter func14,ntmps14;go_wp2;go_loopw [5,6] (λsv iv wr=>∃(i:Nat) (y:ByteArray),i<=32/\iv=.int .i64 ((i:Int)+1)/\sv=.string y/\y.size<=1200*i/\Hid (wasI true c ⟨#[]⟩ i=y)/\Hid (Below w w wr)) (λ_ iv _=>40-(intOf iv).toNat)
 .exact⟨0,⟨#[]⟩,by omega,rfl,rfl,by decide,rfl,zB⟩
 .obtain⟨i,y,h,rfl,rfl,hy,Q,t⟩:=hrel;by_cases b:i<32
  .have Y:(i:Int)+1<=32:=(by omega);have iw:=zW (i+1+1) (by omega);have O:=za (n.o wr t.o i b);let⟨d5,d7⟩:=u.o wr t.o;have E:=E5 true (c i);have g:=HC.o i b;have x:(oldD true (c i)).length<=512:=by
    rw[g];split
    .exact L.o i b
    .exact V.o i b
   have J:Hid (wasI true c ⟨#[]⟩ (i+1)=y++(numI (oldE true (c i))++tu (oldD true (c i))++⟨#[124]⟩)):=(by show _=_;rw[Eg,Q.o]);have ag:(tu (oldD true (c i))).size<=512:=(by rw[rj];exact x);have ab:Hid (live=true->∀W,Below w w W->Calls prog 16 #[(gf,()),(i+1:Int),(),(512:Int)] W (λe w'=>∃v,e=.returned (.tuple #[v,(oldE true (c i):Int)])/\(∀W,Below w' w' W->(convert 38 9 v).run prog W=.ok (.string (tu (oldD true (c i)))) W)/\Below W W w')):=λT W f=>(by have:=M.o W f i b;rwa[g,ze T,<-(Wh (A i)).1,<-(Wh (A i)).2]);have S:Hid (live=false->C k i=c i):=λT=>(by rw[g,T];rfl);have n0:=kT (oldE true (c i)) E.1 (by omega);have HU:=za (λW=>SF (oldE true (c i)) E.1 (by omega) W);have U:Hid ((y++(numI (oldE true (c i))++tu (oldD true (c i))++⟨#[124]⟩)).size<=1200*(i+1)):=(by show _<=_;rw[Mn,Mn,Mn,show (⟨#[124]⟩:ByteArray).size=1 from rfl];omega);have K:Hid (∀j v,uM j v (oldD true (c i))->∀W,Below j j W->(convert 38 9 v).run prog W=.ok (.string (tu (oldD true (c i)))) W):=λj v H W f=>O7 _ (uq.below H f);clear g x;cases live
   case' false=>rw[S.o rfl]at O
   all_goals
    generalize oldE true (c i)=oe at *
    generalize oldD true (c i)=od at *
    generalize tu od=bs at *
   case' false=>
    go_wp2_with fail
    refine O.o.mono ?_;rintro e j ⟨v,rfl,H,d⟩;have B:=za (zi t.o d);have m:=za (K.o j v H)
   case' true=>
    go_wp2_with fail
    refine O.o.mono ?_;rintro e w0 ⟨v0,rfl,_,z⟩;have l:=za (zi t.o z);let⟨f5,f7⟩:=u.o w0 l.o;go_wp2_with fail
    refine (ab.o trivial w0 l.o).mono ?_;rintro e j ⟨v,rfl,D,d⟩;have B:=za (zi l.o d);have m:=za D
   all_goals
    go_wp2_with fail
    refine vg rfl (by kernel_rfl) ?_
    repeat (first
     | go_big_quiet_skip
     | (refine tN rfl (.string bs) (λw' I=>TH 38 9 _ rfl v (.string bs) rfl (m.o w' (us I))) ?_;simp only[Act.put,zP,yf,yb])
     | (refine mI _ rfl rfl _ rfl (λ_ _=>vY) HU.o ?_;simp only[Act.put,zP,yf,yb])
     | (go_big_quiet_want;go_big_quiet_op;go_big_quiet_on))
    refine vn ?_;intro w2 r;have Z:=za (zi B.o (us r));clear r m;go_wp2;go_roundw
    .exact⟨i+1,_,by omega,by go_num,rfl,U.o,J,Z⟩
    .simp[intOf];omega
  .obtain rfl:i=32:=(by omega);have Y:¬((32:Nat):Int)+1<=32:=(by omega);obtain rfl:y=R:=Q.o.symm.trans N.o;clear Q N;go_wp2;go_ret;exact⟨rfl,t.o⟩
theorem ycfg (v vm) (l m) (w) (h:mi w v l) (h':mi w vm m) (hl:l.length<=maxLen) (aa:m.length<=maxLen) (hs:∀x,x∈l->x.S.size<=maxLen) (ae:∀x,x∈m->x.S.size<=maxLen):
 Calls prog 4 #[v,vm] w (κ w (.bool true)):=by
 have bA:=za (Pv w);have aO:=za (λW (c:Below w w W)=>Ri v l W (uq.below h c) hl hs);have a3:=za (λW (c:Below w w W)=>Ri vm m W (uq.below h' c) aa ae);have a9:Hid (so l=true->∀W,Below w w W->Calls prog 12 #[v] W (λe w'=>∃d ad F A B,e=.returned (.tuple #[.pointer (some ⟨d,0,none⟩),(ad:Addr)])/\FsAt w' d (fB l) F ad/\SI (fB l) 40 A/\(GI A λ_=>0)/\RI A/\SJ (fB l) B/\Below W W w'/\∀i,F i->W.heap.size<=i)):=λhb W c=>by obtain⟨h1,h2⟩:=Rj hb;obtain⟨A,h3,h4,h5,B,h6⟩:=TC l (by omega) h2 l.length zL;rw[xN]at h3 h6;refine (TB v l W (uq.below h c) h1 h2).mono ?_;rintro e w' ⟨d,ad,F,rfl,q1,q2,q3⟩;exact⟨d,ad,F,A,B,rfl,q1,h3.mono h1 (by omega),h4,h5,h6,q2,q3⟩
 have HM:=za (λ(hb:so m=true)=>Rj hb);obtain⟨N,HN⟩:=zA m.length;obtain⟨p,cp,hv,hp⟩:=Py h' N HN.o;subst hv;have HP:=za hp;obtain⟨sb,bE⟩:=zD (so l);obtain⟨sm,cb⟩:=zD (so m);rw[bE.o]at aO a9;rw[cb.o]at a3 HM;clear h h' hl aa hs ae hp;go_enter func4,ntmps4;go_wp2_with fail
 refine bA.o.mono ?_;rintro e w1 ⟨rfl,bf⟩;have aQ:=za bf;clear bf;go_wp2_with fail
 refine (aO.o w1 aQ.o).mono ?_;rintro e w2 ⟨rfl,D⟩;have am:=za (zi aQ.o D);clear D;cases sb with
 | false=>
  go_wp2;go_ret;exact⟨rfl,am.o⟩
 | true=>
 go_wp2_with fail
 refine (a3.o w2 am.o).mono ?_;rintro e bP ⟨rfl,D⟩;have s:=za (zi am.o D);clear D;cases sm with
 | false=>
  go_wp2;go_ret;exact⟨rfl,s.o⟩
 | true=>
 obtain⟨ab,J⟩:=HM.o rfl;have u:=za ab;have H:=za J;have bD:=za (a9.o trivial bP s.o);clear ab J;go_wp2_with fail
 refine bD.o.mono ?_;rintro e w3 ⟨d,ad,F,A,B,rfl,h3,s3,g3,r3,j3,aK,f3⟩;generalize fB l=S at *
 have ao:=za (zi s.o aK);have n:=za ((xW w3 w3).alloc zL (.cells #[(d,())] 25));have a7:Hid (∀i,F i->w.heap.size<=i):=λi b=>zv s.o.size (f3 i b);have ak:=WF (h3.below n.o) λhk=>(s3.snap (by omega) hk).1;have bQ:Hid (∀i,F i->i<w3.heap.size):=λi b=>h3.fin i b;have bc:=za (Ew s3 g3 r3 (by omega) j3);obtain⟨⟨⟨sk,se⟩,S1⟩,b8⟩:∃r,Hid (ZJ S=r):=⟨_,za rfl⟩;rw[b8.o]at ak bc;have bY:=za ak;have bb:=za g3;have aL:=za r3;clear ak h3 s3 g3 r3 j3 aK f3;go_wp2_with fail
 refine bY.o.mono ?_;rintro e O ⟨rfl,F4,h4,f4,k4⟩;have V:=za ((zi ao.o n.o).trans (k4.to_below (λi b=>a7.o i b) (zi ao.o n.o).size));obtain⟨a,ai⟩:=zD w3.heap.size;have P:(w3.alloc (.cells #[(d,())] 25)).heap[a]?=some (.cells #[(d,())] 25):=by rw[<-ai.o];exact zH
 have z:¬F a:=λy=>by have:=bQ.o a y;have:=ai.o;omega
 have Y:=(k4.block a (xB P) z).trans P;have aZ:=za Y;have H4:=za h4;have aM:Hid (∀i,F4 i->w.heap.size<=i/\i≠a):=λi b=>by
  rcases f4 i b with h|h
  .exact⟨a7.o i h,λy=>z (y▸h)⟩
  .have h1:=(zi ao.o n.o).size;have h2:=xB P;exact⟨by omega,by omega⟩
 rw[ai.o];clear h4 f4 k4 P Y z;rcases bc.o with h6|⟨k,k1,k4,hk,s4,t4,B1,j4,e4⟩
 .subst h6;go_wp2;go_ret;exact⟨rfl,V.o.alloc V.o.size _⟩
 injection hk with bT b5;subst bT b5;have c0:=za aL.o;have ca:=za (s4.see bb.o);have bp:=za (j4.old s4);have b0:=za t4;have aR:=za e4;have aF:=za (LT s4 bb.o aL.o j4 k1 k4 t4 m (by have:=u.o;omega) H.o);have a8:=za (V.o.alloc V.o.size (.cells #[k] 3));have M:=za ((xW O O).alloc zL (.cells #[k] 3));obtain⟨t,af⟩:=zD O.heap.size;have aH:Hid ((O.alloc (.cells #[k] 3)).heap[t]?=some (.cells #[k] 3)):=by rw[<-af.o];exact zH
 have HC:Hid (∀W,Below (O.alloc (.cells #[k] 3)).heap.size (O.alloc (.cells #[k] 3)) W->W.cell? (a,0)=some (.pointer (some ⟨d,0,none⟩))/\W.cell? (t,0)=some (.int .i64 k)):=λW c=>⟨by rw[zC (xV (zi M.o c) aZ.o)];rfl,by rw[zC (xV c aH.o)];rfl⟩;have aq:=za (λW (c:Below (O.alloc (.cells #[k] 3)).heap.size (O.alloc (.cells #[k] 3)) W) (Z:Bool)=>UE (H4.o.below (zi M.o c)) ca.o bp.o k k1 k4 b0.o a t (HC.o W c).1 (HC.o W c).2 Z A λi b=>by
  cases Z
  .exact (aR.o i b).symm
  .rfl)
 obtain⟨T,HT⟩:=zD (wasI true A ⟨#[]⟩ 32);rw[HT.o]at aq;clear s4 t4 j4 e4;have bs:Hid (∀i,F4 i->w.heap.size<=i/\i≠a/\i≠t):=λi b=>⟨(aM.o i b).1,(aM.o i b).2,λy=>by have:=H4.o.fin i b;have:=af.o;omega⟩;go_wp2_with fail
 rw[af.o];have H5:=za (H4.o.below M.o);have aP:=za (xV M.o aZ.o);generalize O.alloc (.cells #[k] 3)=w5 at *
 refine (aq.o w5 zB true).mono ?_;rintro e w6 ⟨rfl,aN⟩;have aA:=za aN;clear aN;go_wp2_with fail
 refine (aq.o w6 aA.o false).mono ?_;rintro e w7 ⟨rfl,be⟩;have U:=za (zi aA.o be);have bz:=za (a8.o.trans (U.o.mono a8.o.size));clear be;go_wp2;go_loopw [48] (λi wr=>∃j:Nat,j<=N/\i=.int .i64 j/\Hid (∃F,FsAt wr d (mm S1 (m.take j)) F ad/\∀i,F i->w.heap.size<=i/\i≠a/\i≠t)/\Hid (wr.heap[a]?=some (.cells #[(d,())] 25)/\wr.heap[t]?=some (.cells #[k] 3))/\Hid (Below w w wr)) (λi _=>N-(intOf i).toNat)
 .exact⟨0,yh _,rfl,⟨F4,H5.o.below U.o,bs.o⟩,⟨xV U.o aP.o,xV U.o aH.o⟩,bz⟩
 .obtain⟨j,hj,rfl,HF,HQ,X⟩:=hrel;obtain⟨C,K⟩:=HQ.o;by_cases b4:j<N
  .obtain⟨g,o,rfl,hg,y⟩:=HP.o (by omega);have ah:j<m.length:=(by rw[<-HN.o];exact b4);obtain⟨q1,q2,q3,q4,q5⟩:=y j ah;obtain⟨x,Hx⟩:=zD (m[j]);rw[Hx.o]at q1 q2 q3 q4 q5;have c1:=(X.o.cell (p:=⟨g,o+j*5,none⟩) hg).trans q1;have c2:=(X.o.cell (p:=⟨g,o+(j*5+1),none⟩) hg).trans q2;have c3:=(X.o.cell (p:=⟨g,o+(j*5+2),none⟩) hg).trans q3;have c4:=(X.o.cell (p:=⟨g,o+(j*5+3),none⟩) hg).trans q4;have c5:=(X.o.cell (p:=⟨g,o+(j*5+4),none⟩) hg).trans q5;rw[<-yp]at c2 c3 c4 c5;obtain⟨F5,hF,q⟩:=HF.o;obtain⟨A0,a6,aB,_⟩:=aF.o j (by omega);have aW:(nb x).S.size<=600:=(by rw[(nb_ok x).2,<-Hx.o];exact zv (H.o _ (Nj ah)) (by omega));have e1:mm S1 (m.take (j+1))=(doM (mm S1 (m.take j)) (nb x)).2:=(by rw[<-Sc,<-Hx.o,zU ah]);have E:=za (λ(W:World) (c:Below wr wr W)=>Fl (hF.below c) a6 aB (by have:=u.o;have:=HN.o;omega) (nb x) aW);rw[<-e1]at E;obtain⟨R,HR⟩:=zD (mm S1 (m.take (j+1)));rw[HR.o]at E;have au:=za q;have ag:Hid (∀i,F5 i->w.heap.size<=i):=λi b=>(q i b).1;have Q:=za (xB C);have aX:=za (xB K);obtain⟨I,xa,xb,xc,xS⟩:=x;have aG:=za (λW=>tW I 12 W (by omega) (by omega));have cN:=tX I 12 (by omega) (by omega);have d5:∀W,Below wr wr W->W.cell? (a,0)=some (.pointer (some ⟨d,0,none⟩)):=λW c=>(by rw[zC (xV c C)];rfl);have bF:=za d5;have bd:j<(N:Int):=(by omega);have ck:N<=40:=(by rw[HN.o];exact u.o);clear y q1 q2 q3 q4 q5 hF q a6 aB aW e1 HF d5 C K;by_cases L:pk I 12=11
   case' pos =>have ap:Hid (nb ⟨I,xa,xb,xc,xS⟩=⟨I,xa,0,xc,xS⟩):=ze L;rw[ap.o]at E;rw[L]at aG;have f:=za ((xW wr wr).alloc zL (.cells #[I,xa,(),xc,.string xS] 30))
   case' neg=>
    have ap:Hid (nb ⟨I,xa,xb,xc,xS⟩=⟨I,xa,xb,xc,xS⟩):=zb L;rw[ap.o]at E;have c8:(pk I 12==11)=false:=(by simpa using L);generalize pk I 12=c6 at *
    have f:=za ((xW wr wr).alloc zL (.cells #[I,xa,xb,xc,.string xS] 30))
   all_goals
    have d5:=bF.o _ f.o;have bq:=za (E.o _ f.o);clear L;go_wp2_with fail
    refine (aG.o _).mono ?_;rintro e wp ⟨rfl,rfl⟩;go_wp2_with fail
    refine bq.o.mono ?_;rintro e w8 ⟨rfl,F8,h8,f8,k8⟩;have n:=za (zi X.o f.o);have G:=za (n.o.trans (k8.to_below ag.o n.o.size));have HX:Hid (∃F,FsAt w8 d R F ad/\∀i,F i->w.heap.size<=i/\i≠a/\i≠t):=⟨F8,h8,λi b=>(f8 i b).elim (au.o i) λh=>by have z1:=f.o.size;have z2:=Q.o;have z3:=aX.o;have z4:=X.o.size;exact⟨by omega,by omega,by omega⟩⟩;have bB:Hid (w8.heap[a]?=some (.cells #[(d,())] 25)/\w8.heap[t]?=some (.cells #[k] 3)):=(by have z1:=f.o.size;exact⟨(k8.block a (zr Q.o z1) λy=>(au.o a y).2.1 rfl).trans (xV f.o HQ.o.1),(k8.block t (zr aX.o z1) λy=>(au.o t y).2.2 rfl).trans (xV f.o HQ.o.2)⟩);clear h8 f8 k8 d5 c1 c2 c3 c4 c5;go_wp2;go_roundw
    .exact⟨j+1,by omega,by go_num,by rw[HR.o];exact HX,bB,G⟩
    .simp[intOf];omega
  .obtain rfl:j=N:=(by omega);have bd:¬j<(j:Int):=(by omega);obtain⟨F5,hF,q⟩:=HF.o;obtain⟨A9,s9,g9,r9,B9,j9,t9,e9⟩:=aF.o j (by rw[HN.o];exact zL);have H9:=za hF;have ag:Hid (∀i,F5 i->w.heap.size<=i):=λi b=>(q i b).1;have z:¬F5 a:=λy=>(q a y).2.1 rfl;have aI:41+j<=1000:=(by have:=u.o;have:=HN.o;omega);have y5:wr.cell? (a,0)=some (.pointer (some ⟨d,0,none⟩)):=(by rw[zC C];rfl);have y7:wr.cell? (t,0)=some (.int .i64 k):=(by rw[zC K];rfl);have ar:=xB C;have aS:=xB K;have an:=UE hF (s9.see g9) (j9.old s9) k k1 k4 t9 a t y5 y7 false A λi b=>(by show A i=(B9 k).2 i;rw[e9];exact (aR.o i b).symm);rw[HT.o]at an;have bN:=za an;have ba:=za (λW (c:Below wr wr W)=>hR (hF.below c) k k1 k4 λ_=>(s9.forget aI k1).1);have aJ:=za (DR t9);obtain⟨A8,s8,B8,j8⟩:=J5 s9 g9 r9 aI j9 k1 t9;have a4:=za (λW F' (hf:FsAt W d (je (mm S1 (m.take j)) k).2 F' ad)=>Pr hf s8.byteE (j8.fine s8));obtain⟨⟨fe,S9⟩,bx⟩:∃r,Hid (je (mm S1 (m.take j)) k=r):=⟨_,za rfl⟩;rw[bx.o]at ba aJ a4;obtain rfl:fe=0:=aJ.o;have b7:Hid (∀W,Below wr wr W->W.cell? (a,0)=some (.pointer (some ⟨d,0,none⟩))/\W.cell? (t,0)=some (.int .i64 k)):=λW c=>⟨(c.cell (p:=⟨a,0,none⟩) ar).trans y5,(c.cell (p:=⟨t,0,none⟩) aS).trans y7⟩;have Q:=za ar;have b3:=za z;clear hF q s9 g9 r9 j9 t9 e9 an s8 j8 z ar aS y5 y7 C K HF;go_wp2_with fail
   refine bN.o.mono ?_;rintro e w8 ⟨rfl,aj⟩;have G:=za aj;obtain⟨x5,x7⟩:=b7.o w8 aj;clear aj;go_wp2_with fail
   refine (ba.o w8 G.o).mono ?_;rintro e w9 ⟨rfl,F9,h9,f9,k9⟩;have b1:=za (a4.o w9 F9 h9);have aT:=za (X.o.trans (G.o.mono X.o.size));have b9:=za (aT.o.trans (k9.to_below ag.o aT.o.size));have x9:w9.cell? (a,0)=some (.pointer (some ⟨d,0,none⟩)):=(by have:=k9.block a (zr Q.o G.o.size) b3.o;unfold World.cell? at x5 |-;rw[this];exact x5);clear h9 f9 k9 x5 x7;go_wp2_with fail
   refine b1.o.mono ?_;rintro e cJ ⟨rfl,ac⟩;have aU:=za (zi b9.o ac);clear ac;go_wp2;go_ret;exact⟨by simp,aU.o⟩
