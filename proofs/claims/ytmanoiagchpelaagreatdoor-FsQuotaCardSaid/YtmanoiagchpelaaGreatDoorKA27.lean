import Derived.Test.YtmanoiagchpelaaGreatDoorKA26
set_option maxHeartbeats 0
set_option linter.all false
set_option maxRecDepth 100000
namespace Go.Proofs.YtmanoiagchpelaaGreatDoor
open Go.Proofs.Tryz Go.RowKit
variable {B gf gt k n:Nat} {F F1 T:Nat->Prop} {a:Addr} {fp v:Value} {o:Ow} {p:Int} {s:Fs} {w w' w0:World} {xs:List Value}
theorem TK {p':Int} {o':Ow} (h:ownU o k p=(p',o')) (f:k<=256) (g:0<=p/\p<=1000000) (e:0<=o.fk/\o.fk<=1000000):0<=p'/\p'<=1000001/\o.fk<=o'.fk/\o'.fk<=o.fk+1:=by
 have a:∀(o) (p') (o'),0<=o.fk/\o.fk<=1000000->qB o k=(p',o')->0<=p'/\p'<=1000001/\o.fk<=o'.fk/\o'.fk<=o.fk+1:=by
  intro o p' o' e h;unfold qB at h;cases d:jx o.fo k with
  | none=>
   rw[d]at h;injection h with c b;subst c b;show _/\_/\o.fk<=o.fk+1/\o.fk+1<=o.fk+1;omega
  | some n=>
   rw[d]at h;injection h with c b;subst c b;have:=(UW d).2.1;show _/\_/\o.fk<=o.fk/\o.fk<=o.fk+1;omega
 unfold ownU at h;split at h
 .exact a _ _ _ e h
 .split at h
  .exact a {o with fo:=hasF o.fo (del (o.fo.hs 0) p.toNat)} _ _ e h
  .injection h with c b;subst c b;omega
theorem Ku {x:Tx} (hf:FsAt w0 gf s F1 a) (hb:Below w0 w0 w) (h:TxAt w w0 F gt (gf,()) x T) (gb) (X:Pn) (q) (n c)
 (hr:w.heap[gb]?=some (.cells #[X.k,X.m,X.u,X.g,X.s,X.l,X.up,.slice q n c] 123)) (hX:vT w (.slice q n c) X.P) (am:F gb/\¬T gb/\w0.heap.size<=gb)
 (k) (hk:k<X.P.length) (aD:X.P.length<=8) (a4:x.fake<1000000) (a5:0<=X.P[k]/\X.P[k]<=1000000) p' (o') (ho:ownU x.ow s.k X.P[k]=(p',o')) (v) (D) (hv:sJ w w0 v D) (hvT:∀b,v.ownBlock=some b->¬T b) (hpl:x.put.length<900):
 Calls prog 89 #[(gt,()),.pointer (some ⟨gb,0,none⟩),.int .i64 k,v] w
  (fun e w'=>e=.returned (.tuple #[])/\∃T' g' c',TxAt w' w0 F gt (gf,()) {x.wow o' with put:=putZ x.put p' D} T'/\(∀i,T' i->T i\/w.heap.size<=i)/\(∀i,T i->T' i) /\
   yQ (fun i=>T i\/i=gb) w w'/\w'.heap[gb]?=some (.cells #[X.k,X.m,X.u,X.g,X.s,X.l,X.up,(g',0,X.P.length,c')] 123) /\
   (w.heap.size<=g'/\¬T' g'/\X.P.length<=c')/\∃cu,w'.heap[g']?=some (.cells cu 3)/\cu.toList.take X.P.length=ints (X.P.set k p')):=by
 have H:=za h;have HF:=za hf;have b9:=za hb;have HO:=za ho;have HV:=za hv;have aT:=za hvT;have HX:=za hX;have HR:=za hr;have c7:=(uT hr).2.2.2.2.2.2.2;have f7:w.frozen? (gb,7)=false:=zF hr;have aI:=xR hr;have a9:=za (U4 (q,n,c) X.P w hX (by omega));clear ho hv hX;go_enter func89,ntmps89;go_wp2_with fail
 refine a9.o.mono ?_;intro e w1 a3;obtain⟨v1,rfl,az,B,_⟩:=a3;obtain⟨_,⟨bs,h0⟩|⟨d,c1,Q,rfl,af,ad,al,aW,a2,S⟩⟩:=id az
 .omega
 obtain⟨N,HN⟩:=zD X.P.length;have aQ:k<N:=by rw[<-HN.o];exact hk
 have bg:k<(N:Int):=by omega
 rw[HN.o]at al S ⊢;have b2:=za B;have H1:=za (h.grow B d af);have ab:=za (wy B hr);have d7:=(B.cell (p:=⟨gb,7,none⟩) aI).trans c7;have e7:w1.frozen? (gb,7)=false:=zF ab.o;have aa:gb≠d:=by omega
 have b0:=za ad;obtain⟨j,G⟩:=zD (w1.setCell (gb,7) (d,0,N,c1));have aj:Hid (yQ (fun i=>i=gb) w j):=by show _;rw[<-G.o];exact (yQ.of_below B).step (yQ.setCell (F:=fun i=>i=gb) (p:=⟨gb,7,none⟩) rfl _)
 have ao:Hid (TxAt j w0 (fun i=>F i\/i=d) gt (gf,()) x T):=by show _;rw[<-G.o];exact H1.o.local (zr am.1) am.2.1 ab.o (by decide) (yQ.setCell (F:=fun i=>i=gb) (p:=⟨gb,7,none⟩) rfl _)
 have K:=za (hb.trans (aj.o.to_below (fun i z=>by rw[z];exact am.2.2) hb.size));have bB:=za (hf.below K.o);have ae:Hid (j.heap[gb]?=some (.cells #[X.k,X.m,X.u,X.g,X.s,X.l,X.up,(d,0,N,c1)] 123)):=by show _=_;rw[<-G.o];exact yb _ _ 7 _ _ _ ab.o
 have J:Hid (j.heap[d]?=some (.cells Q 3)):=by show _=_;rw[<-G.o];exact (yE _ _ _ _ (yA aa)).trans ad
 have n7:=(uT ae.o).2.2.2.2.2.2.2;obtain⟨y,Hy⟩:=zD (X.P[k]' hk);have nk:j.cell? (d,k)=some (.int .i64 y):=by
  rw[zC J.o,<-zO];have h3:(Q.toList.take (N*1))[k]?=(ints X.P)[k]? :=by rw[S]
  rw[zI,ze (by omega),mu X.P k hk,Hy.o]at h3;exact h3
 have fk:j.frozen? (d,k)=false:=zF J.o;have av:Hid (ownU x.ow s.k y=(p',o')):=by show _;rw[<-Hy.o];exact HO.o
 obtain⟨bD,b5,_⟩:=TK av.o HF.o.k1 (by rw[<-Hy.o];exact a5) (⟨H.o.fake.1,Int.le_of_lt a4⟩:0<=x.fake/\x.fake<=1000000);have aS:=za S;have M:Hid (N<=c1/\Q.size=c1*1/\w.heap.size<=d):=⟨al,a2,af⟩;clear az B ad S al aW a2 af a9
 go_upto_region 1 with fail
 rw[G.o];have a6:Hid (∀W,Below j j W->Calls prog 118 #[(gt,()),y] W
  (fun e w'=>e=.returned p'/\uc w0 (fun i=>F i\/i=d) gt (gf,()) (x.wow o') T W w')):=fun W U=>by
  have:=YH HF.o (K.o.trans (U.mono K.o.size)) (ao.o.below U) a4 y (by rw[<-Hy.o];exact a5);rw[av.o]at this;exact this
 have f:Hid (¬T gb/\¬T d/\gb<j.heap.size/\d<j.heap.size):=⟨am.2.1,fun L=>by have:=ao.o.fin d L;have h2:=h.fin d L;have h3:=M.o.2.2;omega,xR ae.o,xR J.o⟩;have HS:∀W,(∃W0,Below j j W0/\yQ T W0 W)->(W.cell? (gb,7)=some (.slice (some ⟨d,0,none⟩) N c1)/\W.cell? (d,k)=some (.int .i64 y)/\W.frozen? (d,k)=false):=fun W ⟨W0,U,hk⟩=>
  ⟨(
   (hk.cell (zo f.o.2.2.1 U.size) f.o.1).trans (U.cell (p:=⟨gb,7,none⟩) f.o.2.2.1)).trans n7,((hk.cell (zo f.o.2.2.2 U.size) f.o.2.1).trans (U.cell (p:=⟨d,k,none⟩) f.o.2.2.2)).trans nk,
   zF ((hk.block d (zo f.o.2.2.2 U.size) f.o.2.1).trans (wy U J.o))⟩
 have ak:=za HS;have m0:=ak.o j.drew ⟨j.drew,zB.drew,yQ.refl _ _⟩;clear HS c7 f7 d7 e7
 go_cut [0,1,2,3] (fun s0 s1 s2 s3 wx=>s0=.pointer (some ⟨gt,0,none⟩)/\s1=.pointer (some ⟨gb,0,none⟩)/\s2=.int .i64 (k:Int)/\s3=v/\∃W,Hid (uc w0 (fun i=>F i\/i=d) gt (gf,()) (x.wow o') T j.drew W)/\Hid (wx=W.setCell (d,k) (.int .i64 p')))
 case first=>
  go_region_with (first
   | (go_at_call 118;go_loud ((with_reducible refine (a6.o j.drew zB.drew).mono ?_);(rintro e w3 ⟨rfl,ac⟩);(obtain⟨bp,bq,bo⟩:=ak.o w3 ⟨j.drew,zB.drew,ac.choose_spec.2.2.1⟩);(have aJ:=za ac);clear ac)))
  all_goals
   go_wp2_with fail
   go_meet
   case rel=>exact⟨rfl,rfl,rfl,rfl,_,aJ,rfl⟩
 case rest=>
  obtain⟨rfl,rfl,rfl,rfl,W,⟨T',t1,t2,t3,t4⟩,R⟩:=hcut;have ap:=za t1;have I:¬T' gb/\¬T' d:=⟨fun L=>(t2 gb L).elim f.o.1 (fun C=>zY C (rz f.o.2.2.1)),fun L=>(t2 d L).elim f.o.2.1 (fun C=>zY C (rz f.o.2.2.2))⟩;have O:=(t3.block d f.o.2.2.2 f.o.2.1).trans J.o;have a0:=(t3.block gb f.o.2.2.1 f.o.1).trans ae.o;have aq:Hid (TxAt wc w0 (fun i=>F i\/i=d) gt (gf,()) (x.wow o') T'):=by show _;rw[R.o];exact ap.o.local (zu rfl) I.2 O (by decide) (yQ.setCell (F:=fun i=>i=d) (p:=⟨d,k,none⟩) rfl _)
  have be:=xR O;obtain⟨V,ax⟩:=zD (Q.setIfInBounds k (.int .i64 p'));have ay:Hid (wc.heap[d]?=some (.cells V 3)):=by show _=_;rw[R.o,<-ax.o];exact yb _ _ k _ _ _ O
  have aw:Hid (wc.heap[gb]?=some (.cells #[X.k,X.m,X.u,X.g,X.s,X.l,X.up,(d,0,N,c1)] 123)):=by show _=_;rw[R.o];exact (yE _ _ _ _ aa).trans a0
  have ar:Hid (V.toList.take N=ints (X.P.set k p')):=by show _=_;rw[<-ax.o];have C:=aS.o;rw[uq]at C;rw[wV,List.take_set,C];unfold ints;rw[th]
  have a7:Hid (yQ (fun i=>T i\/i=gb) w wc):=by show _;rw[R.o];have k1:yQ (fun i=>T i\/i=gb) w j:=aj.o.mono fun i _ z=>zu z;have k2:yQ (fun i=>T i\/i=gb) j W:=(yQ.of_below (zB.drew)).step (t3.mono fun i _ z=>zr z);exact (k1.step k2).trans (yQ.setCell (F:=fun i=>i=d) (p:=⟨d,k,none⟩) rfl _) fun i z=>zu (by rw[z];exact M.o.2.2)
  have ai:Hid ((∀i,T' i->T i\/w.heap.size<=i)/\∀i,T i->T' i):=⟨fun i z=>(t2 i z).imp id (fun C=>zt aj.o.size C),t4⟩;have an:=za I;obtain⟨rv,gn,cn,gd,gp,gv,E,pl,hl⟩:=aq.o.lies;obtain⟨_,_,_,_,Z,_⟩:=rt hl.row;have n7:=(uT aw.o).2.2.2.2.2.2.2;have nk:wc.cell? (d,k)=some (.int .i64 p'):=by rw[zC ay.o,<-zO];have h3:(V.toList.take N)[k]?=(ints (X.P.set k p'))[k]? :=(by rw[ar.o]);rw[zI,ze aQ,mu _ k (by rw[xK];exact hk),List.getElem_set_self]at h3;exact h3
  have aY:=xA Z;have k7:=xA n7;have kk:=xA nk;have HL:=za hl;have aF:Hid (sJ wc w0 u3 D):=by
   obtain⟨g,aV,aH,z1,z2,z3,z4,Y,z6⟩:=HV.o;refine⟨g,aV,aH,z1,z2,z3,z4,(a7.o.block g (xR Y) (fun hT=>?_)).trans Y,z6⟩;rcases hT with hT|hT
   .exact aT.o g (by rw[z1];rfl) hT
   .rw[hT,HR.o]at Y;injection Y with Y;injection Y with _ Y;exact zY Y (by decide)
  clear t1 t2 t3 t4 O a0 I hl Z n7 nk m0 a6 ak;go_wp2_with fail
  refine Zz 12 (by kernel_rfl) (by kernel_rfl) ?_;simp only[wZ,xH,vd,wT]
  repeat (first
   | go_big_quiet_skip
   | (go_big_quiet_want;go_big_quiet_op;go_big_quiet_on))
  refine ve ?_;intro w5 aN;have A:=za (sF aN);have a8:=za (HL.o.puts.of_block (A.o.block _ HL.o.puts.lt));have b6:pl.length<900:=by rw[HL.o.secs.len];exact hpl
  go_wp2_with (at_mapUpdate;refine Jy _ rfl _ _ _ _ rfl 3 56 intT mz gp pl p' u3 rfl a8.o (by omega) rfl rfl (by unfold InZ;omega) ?_;intro w6 aP aG)
  go_end0
  have ah:yQ (fun i=>i=gp) w5 w6:=yQ.grown aG.grown (fun r hr=>by injection hr with hr;exact hr.symm);have aK:=Z9 aF.o fun g cc _ L=>A.o.block g (xR L);have aM:=(HL.o.below A.o).putMap (aq.o.below A.o) p' u3 D aK ah aP (by show x.put.length<1000;omega);have a1:∀(b:Nat) (c) (t),wc.heap[b]?=some (.cells c t)->w6.heap[b]?=some (.cells c t):=fun b c t L=>by have h5:=wy A.o L;exact (ah.block b (xR h5) (tQ h5 a8.o)).trans h5
  refine⟨rfl,T',aM.outer (fun i _ z=>zr z),ai.o.1,ai.o.2,?_,d,c1,?_,⟨M.o.2.2,an.o.2,?_⟩,V,a1 d _ _ ay.o,?_⟩
  .refine (a7.o.step (yQ.of_below A.o)).trans ah fun i z=>?_;rcases ai.o.1 gp HL.o.tp with C|C
   .exact zr (zr (by rw[z];exact C))
   .exact zu (by rw[z];exact C)
  .rw[HN.o];exact a1 gb _ _ aw.o
  .rw[HN.o];exact M.o.1
  .rw[HN.o];exact ar.o
def blkB (D:List Int) (i:Nat):List Int:=over (List.replicate 64 0) 0 (((D.drop (64*i))).take 64)
theorem Kj {P:Program} (w) (dT sT ty elem) (h:P.underlying dT=some (.slice elem)) (f:(P.info? elem).map (·.size)=some 1) (g) (cur D) (t) (i:w.heap[g]?=some (.cells (u8s cur).toArray t (0,0))) (k:cur.length=64)
 (g' o' m c) (l:D.length=m) (n:∀(j) (x),(u8s D)[j]?=some x->w.cell? ⟨g',o'+j,none⟩=some x):
 (Builtin.copy_ #[dT,sT] ty #[.slice (some ⟨g,0,none⟩) 64 64,.slice (some ⟨g',o',none⟩) m c]).run P w=.ok (goInt (u8s (D.take 64)).length) (w.setRow g (u8s (over cur 0 (D.take 64))).toArray):=by
 have a:=rP (P:=P) w dT sT ty elem g 0 64 64 ⟨g',o',none⟩ m c (u8s cur).toArray t (u8s (D.take 64)) h f i (by rw[uo,zj,l];exact Nat.min_comm 64 m) (fun j v d=>by
  have b:(⟨g',o',none⟩:Addr).add j=⟨g',o'+j,none⟩:=by unfold Addr.add;split<;>simp_all
  rw[b];rw[oV,zI]at d;split at d
  .exact n j v d
  .cases d) (by rw[yO,uo,zj,show (u8s cur).toArray.size=64 by simp[uo,k]];exact Nat.min_le_left _ _) (mG _)
 have e:((u8s cur).toArray.toList.take 0++u8s (D.take 64)++(u8s cur).toArray.toList.drop (0+(u8s (D.take 64)).length)).toArray=(u8s (over cur 0 (D.take 64))).toArray:=by unfold over;rw[pC,pC,xX,xH,xH,mL,uo];rfl
 rw[e]at a;exact a
theorem mO (h:w.ownsRow B 3 1 v n xs) (b) (m:v.ownBlock=some b):∃cur,w.heap[b]?=some (.cells cur 3):=by
 obtain⟨_,⟨a,_⟩|⟨g,c,cur,a,j,d,l,i,k,f⟩⟩:=h
 .subst a;cases m
 .subst a;have e:g=b:=by simpa[Value.ownBlock]using m
  subst e;exact⟨cur,d⟩
theorem uV.addGone {x:Tx} {rv:Value} {gn cn gd gp:Nat} {gv:Value} {E:List Nd} {pl:List (Int×Value)} (h:uV w B F T gt fp x rv gn cn gd gp gv E pl) (u:TxAt w B F gt fp x T) (p) (g' cap')
 (v:yQ (fun i=>i=gt\/gv.ownBlock=some i) w w') (z:w'.heap[gt]?=some (.cells (txR fp x.fo rv (.slice (some ⟨gn,0,none⟩) 32 cn) (.map (some gd)) (.map (some gp)) (.slice (some ⟨g',0,none⟩) (x.gone.length+1) cap') x.full x.fake) 118))
 (y:w'.ownsRow B 3 1 (.slice (some ⟨g',0,none⟩) (x.gone.length+1) cap') (x.gone.length+1) (ints (x.gone++[p]))) (A:gv.ownBlock=some g'\/w.heap.size<=g') (C:x.gone.length<1000):
 uc B F gt fp {x with gone:=x.gone++[p]} T w w':=by
 have f:yQ T w w':=v.mono fun i _ c=>by
  rcases c with c|c
  .rw [c];exact u.self
  .exact h.tg i c
 have k:∀b,b<w.heap.size->b≠gt->gv.ownBlock≠some b->w'.heap[b]?=w.heap[b]? :=fun b r q s=>v.block b r (fun e=>e.elim q s);have n:∀i,(T i\/i=g')->T i\/w.heap.size<=i:=fun i c=>by
  rcases c with c|rfl
  .exact zr c
  .exact A.imp (h.tg i) id
 have m:=(y.lt g' rfl).2;have l:=(y.lt g' rfl).1;refine⟨fun i=>T i\/i=g',?_,n,f,fun i c=>zr c⟩;refine uV.at (x:={x with gone:=x.gone++[p]}) (rv:=rv) (gn:=gn) (cn:=cn) (gd:=gd) (gp:=gp) (gv:=.slice (some ⟨g',0,none⟩) (x.gone.length+1) cap') (E:=E) (pl:=pl) ⟨z,lJ h.rows f n,?_,qS h.nds f n,?_,?_,?_,h.ne,?_,zr h.tn,zr h.td,zr h.tp,fun b d=>zu ?_⟩ (zr u.self) u.len (fun i c=>?_) (fun i c=>?_) ?_ u.put u.dirty u.rows u.fake
 .refine tw h.own fun b d=>k b (h.own.lt b d).2 (rH h.own h.row (by decide) b d) fun e=>?_;obtain⟨j,a⟩:=mO h.gone b e;exact rH h.own a (by decide) b d rfl
 .refine h.dirt.of_block (k gd h.dirt.lt (yA (tQ h.row h.dirt)) fun e=>?_);obtain⟨j,a⟩:=mO h.gone gd e;exact tQ a h.dirt rfl
 .refine h.puts.of_block (k gp h.puts.lt (yA (tQ h.row h.puts)) fun e=>?_);obtain⟨j,a⟩:=mO h.gone gp e;exact tQ a h.puts rfl
 .refine h.secs.keep fun g t _ e=>k g (xR e) (tC e h.row (by decide)) fun o=>?_;obtain⟨j,a⟩:=mO h.gone g o;exact tC e a (by decide) rfl
 .show w'.ownsRow B 3 1 _ (x.gone++[p]).length (ints (x.gone++[p]));rw[zm];exact y
 .simpa[Value.ownBlock,eq_comm]using d
 .rcases c with c|rfl
  .exact zo (u.fin i c) v.size
  .exact m
 .rcases c with c|rfl
  .exact u.new i c
  .exact l
 .show (x.gone++[p]).length<=1000;rw[zm];exact C
theorem YS (e:k<=256) (c:256<=o.fk) (d:0<=p/\p<=o.fk):0<=(ownU o k p).1/\(ownU o k p).1<=(ownU o k p).2.fk/\o.fk<=(ownU o k p).2.fk/\(ownU o k p).2.fk<=o.fk+1:=by
 have a:∀o,256<=o.fk->0<=(qB o k).1/\(qB o k).1<=(qB o k).2.fk/\o.fk<=(qB o k).2.fk/\(qB o k).2.fk<=o.fk+1:=fun o h=>by
  unfold qB;cases b:jx o.fo k with
  | none=>show 0<=o.fk+1/\o.fk+1<=o.fk+1/\o.fk<=o.fk+1/\o.fk+1<=o.fk+1;omega
  | some n=>
   have:=(UW b).2.1;show 0<=(n:Int)/\(n:Int)<=o.fk/\o.fk<=o.fk/\o.fk<=o.fk+1;omega
 unfold ownU;split
 .exact a o c
 .split
  .exact a {o with fo:=hasF o.fo (del (o.fo.hs 0) p.toNat)} c
  .exact⟨d.1,d.2,wU _,by show o.fk<=o.fk+1;omega⟩
structure Uw where
 ow:Ow
 put:List (Int×List Int)
 P:List Int
def wrU (k:Nat) (y:Uw) (i:Nat) (D:List Int):Uw:=⟨(ownU y.ow k (y.P.getD i 0)).2,putZ y.put (ownU y.ow k (y.P.getD i 0)).1 D,y.P.set i (ownU y.ow k (y.P.getD i 0)).1⟩
def ro (k:Nat) (D:List Int) (y:Uw):Nat->Uw
 | 0=>y
 | i+1=>wrU k (ro k D y i) i (blkB D i)
def UwIn (y:Uw):Prop:=(∀p∈y.P,0<=p/\p<=y.ow.fk)/\256<=y.ow.fk
theorem UwIn.at {y:Uw} (h:UwIn y) (i):0<=y.P.getD i 0/\y.P.getD i 0<=y.ow.fk:=by
 rw[zi];have:=h.2;cases a:y.P[i]? with
 | none=>exact⟨wU _,by show (0:Int)<=_;omega⟩
 | some p=>exact h.1 p (xU a)
theorem Yj {y:Uw} (i) (D) (f:k<=256) (h:UwIn y):UwIn (wrU k y i D)/\(wrU k y i D).ow.fk<=y.ow.fk+1:=by
 obtain⟨a,b,c,d⟩:=YS f h.2 (h.at i);refine⟨⟨fun p e=>?_,wS h.2 c⟩,d⟩;rcases vv e with e|rfl
 .exact⟨(h.1 p e).1,wS (h.1 p e).2 c⟩
 .exact⟨a,b⟩
theorem YE (k) (y) (i) (D):(wrU k y i D).P.length=y.P.length/\(wrU k y i D).put.length<=y.put.length+1:=⟨xK ..,oy _ _ _⟩
theorem X3 {k:Nat} {y:Uw} (D) (e:k<=256) (h:UwIn y):∀i,UwIn (ro k D y i)/\(ro k D y i).ow.fk<=y.ow.fk+i
 | 0=>⟨h,by show y.ow.fk<=_;omega⟩
 | i+1=>by obtain⟨a,b⟩:=X3 D e h i;obtain⟨c,d⟩:=Yj i (blkB D i) e a;exact⟨c,by show (wrU k (ro k D y i) i (blkB D i)).ow.fk<=_;omega⟩
theorem W6 (k) (y) (D):∀i,(ro k D y i).P.length=y.P.length/\(ro k D y i).put.length<=y.put.length+i
 | 0=>⟨rfl,zL⟩
 | i+1=>by obtain⟨a,b⟩:=W6 k y D i;obtain⟨c,d⟩:=YE k (ro k D y i) i (blkB D i);exact⟨c.trans a,by show (wrU k (ro k D y i) i (blkB D i)).put.length<=_;omega⟩
def Tx.fillX (x:Tx) (k i:Nat) (X:Pn) (D:List Int):Tx:=
 let m:=(D.length+63) / 64
 let y:=ro k D ⟨x.ow,x.put,X.P.take m++List.replicate (m-X.P.length) 0⟩ m
 {x.wow y.ow with put:=y.put,nodes:=x.nodes.set i {X with P:=y.P,s:=D.length},dirty:=putZ x.dirty (i+1) (.bool true),gone:=x.gone++(X.P.drop m).reverse}
theorem TxAt.own {base:Nat} {x:Tx} (h:TxAt w B F gt fp x T) (j:w.ownsRow base 3 1 v n xs) (f:∀b,v.ownBlock=some b->F b/\¬T b) (g:yQ (fun r=>v.ownBlock=some r) w w'):TxAt w' B F gt fp x T:=by
 cases c:v.ownBlock with
 | none=>exact h.below (g.to_below (fun i a=>by rw[c]at a;cases a) zL)
 | some b=>
  obtain⟨d,e⟩:=mO j b c;exact h.local (f b c).1 (f b c).2 e (by decide) (g.mono fun i _ a=>by rw[c]at a;injection a with a;exact a.symm)
structure FG (w0 w:World) (F T:Nat->Prop) (gt gf gb:Nat) (x:Tx) (row:Array Value) (pv:Value) (wq:World):Prop where
 ex:∃T',TxAt wq w0 (fun i=>F i\/w.heap.size<=i) gt (gf,()) x T'/\(∀i,T' i->T i\/w.heap.size<=i)/\(∀i,T i->T' i)/\¬T' gb/\∀b,pv.ownBlock=some b->w.heap.size<=b/\¬T' b
 row:wq.heap[gb]?=some (.cells row 123)
 keeps:yQ T w wq
theorem gO {x:Tx} (hf:FsAt w0 gf s F1 a) (hb:Below w0 w0 w) (h:TxAt w w0 F gt (gf,()) x T) (hF:∀i,F i->i<w.heap.size)
 (i:Nat) (hi:i<32) (X) (hX:x.nodes[i]?=some X) (v) (D) (hv:sx w v D) (ai:∀b,v.ownBlock=some b->¬T b) (hD:D.length<=512) (ax:X.P.length<=8) (aj:∀p∈X.P,0<=p/\p<=x.fake) (al:256<=x.fake/\x.fake<900000) (aw:x.gone.length<=900) (ay:x.put.length<800) (az:x.dirty.length<900):
 Calls prog 127 #[(gt,()),.int .i64 (i+1),v] w
  (fun e w'=>e=.returned (.tuple #[])/\uc w0 F gt (gf,()) (x.fillX s.k i X D) T w w'):=by
 have H:=za h;have HF:=za hf;have aq:=za hb;have HV:=za hv;have cX:=za ai;have cy:=za hF;have c6:=za aj;have bd:=za al;have cM:=za aw;obtain⟨K,HK⟩:=zD ((D.length+63) / 64);have ef:K<=8:=by rw[<-HK.o];omega
 have bx:=za (mr h i hi X hX);have bD:Hid (∀W,Calls prog 87 #[D.length] W fun e w'=>e=.returned K/\W=w'):=fun W=>by
  have:=VS (D.length:Int) W (by omega) (by omega);have e:sg D.length=K:=by unfold sg;rw[<-HK.o];split<;>omega
  rw[e]at this;exact this
 obtain⟨nD,af⟩:=zD D.length;obtain⟨vp,vc,dd⟩:=l9 hv.1 nD af.o;subst dd;rw[af.o]at bD hD;clear h hf hb hv ai hF hX aj al aw;go_enter func127,ntmps127;go_wp2_with fail
 refine bx.o.mono ?_;rintro e w1 ⟨q,n,c,rfl,a0,cl⟩;have aL:=za cl;have ch:=za a0;clear cl a0 bx;go_wp2_with fail
 refine (bD.o _).mono ?_;rintro e w2 ⟨rfl,rfl⟩;obtain⟨d,bk⟩:=zD w1.heap.size;have bg:Hid (Below w w (w1.alloc (.cells #[X.k,X.m,X.u,X.g,X.s,X.l,X.up,(q,n,c)] 123))):=aL.o.alloc aL.o.size _;have aZ:Hid ((w1.alloc (.cells #[X.k,X.m,X.u,X.g,X.s,X.l,X.up,(q,n,c)] 123)).heap[d]?=some (.cells #[X.k,X.m,X.u,X.g,X.s,X.l,X.up,(q,n,c)] 123)):=by rw[<-bk.o];exact zH
 have bz:Hid (vT (w1.alloc (.cells #[X.k,X.m,X.u,X.g,X.s,X.l,X.up,(q,n,c)] 123)) (q,n,c) X.P):=wh.below ch.o.now (zB.alloc zL _);have ao:Hid (w.heap.size<=d):=by show _;rw[<-bk.o];exact aL.o.size
 rw[bk.o];generalize w1.alloc (.cells #[X.k,X.m,X.u,X.g,X.s,X.l,X.up,(q,n,c)] 123)=w2 at *
 have d6:=za (xR aZ.o);have c7:=(uT aZ.o).2.2.2.2.2.2.2;clear ch aL;go_wp2_with fail
 refine (U4 (q,n,c) X.P w2 bz.o (by omega)).mono ?_;rintro e w3 ⟨v3,rfl,ak,aI,_⟩;have ak:=mx ak bg.o.size;have bV:TxAt w3 w0 (fun i=>F i\/w.heap.size<=i) gt (gf,()) x T:=(H.o.outer fun i hi hg=>hg.elim id fun h=>zY h (rz hi)).below (zf bg.o aI);have aH:∀b,w.heap.size<=b->¬T b:=fun b hb L=>zY (H.o.fin b L) (xQ hb);have et:=za aH;obtain⟨q3,c3,bq,_⟩:=tV ak;subst bq;have an:Hid (FG w0 w F T gt gf d x #[X.k,X.m,X.u,X.g,X.s,X.l,X.up,(q,n,c)] (q3,X.P.length,c3) w3):=
  ⟨⟨T,bV,fun i hi=>zr hi,fun _ hi=>hi,aH d ao.o,fun b hb=>⟨(ak.lt b hb).1,aH b (ak.lt b hb).1⟩⟩,wy aI aZ.o,yQ.of_below (zf bg.o aI)⟩
 have b4:=za ak;obtain⟨m,Hm⟩:=zD X.P.length;rw[Hm.o]at b4 an ax ⊢;obtain⟨Y,b5⟩:∃r:Array Value,Hid (#[.int .i64 X.k,.int .i64 X.m,.int .i64 X.u,.int .i64 X.g,.int .i64 X.s,.int .i64 X.l,.int .i64 X.up,.slice q n c]=r):=⟨_,rfl⟩;rw[b5.o]at an;obtain⟨xg,a4⟩:∃xg:Nat->Tx,Hid (∀n,xg n={x with gone:=x.gone++(X.P.drop n).reverse}):=⟨_,fun _=>rfl⟩;have bZ:xg m=x:=by rw[a4.o,<-Hm.o,List.drop_length,List.reverse_nil,yX]
 rw[<-bZ]at an;clear ak aI c7 bz bV aH bZ;go_wp2;obtain⟨i0,b2,cb,bI,bQ⟩:=xy jP;have ci:=za b2;have ca:=za cb;have bX:=za bI;have cf:=za bQ;clear b2 cb bI bQ;go_loopw [8] (fun pv wr=>∃n:Nat,pv=.slice q3 n c3/\Hid (n<=m/\(K<=n\/n=m))/\Hid (FG w0 w F T gt gf d (xg n) Y pv wr)/\Hid (wr.ownsRow w 3 1 pv n (ints (X.P.take n)))) (fun pv _=>lenV pv);case atStart=>exact⟨m,rfl,⟨zL,zu rfl⟩,an,by show _;rw[zv (vM Hm.o)];exact b4.o⟩
 case round=>
  obtain⟨C,rfl,HN,aT,V⟩:=hrel;by_cases cQ:K<C
  .obtain⟨r,rfl⟩:∃r,C=r+1:=⟨C-1,by omega⟩;obtain⟨C,Hn⟩:=zD (r+1);rw[Hn.o]at HN aT V cQ ⊢;have cN:K<(C:Int):=(by omega);have ed:C-1=(r:Int):=(by have:=Hn.o;omega);have en:IntKind.i64.wrap r=r:=zQ _ (by have:=Hn.o;have:=HN.o;omega);have cx:r<C:=(by have:=Hn.o;omega);have d1:r<(C:Int):=(by omega);have dn:r<=(C:Int):=(by omega);obtain⟨g3,dx,bq,d3,dw⟩:=V.o.form (by omega);injection bq with e1 e2 e3;subst e1 e3;clear e2;have bG:r<X.P.length:=(by rw[Hm.o];have:=HN.o;omega);obtain⟨p,Hp⟩:=zD (X.P[r]);have aQ:wr.cell? ⟨g3,r,none⟩=some (.int .i64 p):=by
    have:=V.o.cells (g:=g3) rfl r (.int .i64 p) (by unfold ints;rw[xF,zI,ze cx,zh bG,<-Hp.o];rfl);have bR:(⟨g3,0,none⟩:Addr).add r=⟨g3,r,none⟩:=by unfold Addr.add;split<;>simp_all
    rwa [bR]at this
   obtain⟨⟨T1,t1,t2,t3,t4,t5⟩,I,ac⟩:=aT.o;have aA:=za t1;have aa:Hid ((∀i,T1 i->T i\/w.heap.size<=i)/\(∀i,T i->T1 i)/\¬T1 d/\(∀b,(Value.slice (some ⟨g3,0,none⟩) C c3).ownBlock=some b->w.heap.size<=b/\¬T1 b)/\wr.heap[d]?=some (.cells Y 123)/\yQ T w wr):=⟨t2,t3,t4,t5,I,ac⟩;obtain⟨G,ap⟩:∃z:Tx,Hid (xg C=z):=⟨_,rfl⟩;rw[ap.o]at aA;have dQ:G.gone.length<=920:=(by rw[<-ap.o,a4.o];have:=cM.o;show (x.gone++(X.P.drop C).reverse).length<=920;rw[zm,uh,yB,Hm.o];omega);have bH:xg r={G with gone:=G.gone++[p]}:=(by rw[<-ap.o,a4.o,a4.o,<-Hn.o,<-Hp.o,zP,<-uA,xp bG]);have db:=za bH;obtain⟨rv,gn,cn,gd,gp,gv,E,pl,hL⟩:=aA.o.lies;obtain⟨k0,dH,dO,dq,dr,dC,dv,dz⟩:=rt hL.row;have Q:=za hL;have di:=za (hL.below (lG (x9 wr wr) 1));have cU:=zt aq.o.size ac.size;have cd:Hid (∀w5,(wr.drew.alloc (.cells #[p] 3)).grownBy w5 gv.ownBlock->yQ (fun r=>gv.ownBlock=some r) wr w5/\w5.heap[gt]?=wr.heap[gt]?):=fun w5 dj=>(by have k1:=yQ.grown dj fun r J=>J;have k2:=(yQ.of_below ((lG (x9 wr wr) 1).alloc zL _)).step k1;refine⟨k2,k2.block gt (xR Q.o.row) fun L=>?_⟩;obtain⟨aG,M⟩:=mO Q.o.gone gt L;exact tC Q.o.row M (by decide) rfl);have bM:Hid (∀(gg f) (w4),w4.ownsRow w0 3 1 (.slice (some ⟨gg,0,none⟩) (G.gone.length+1) f) (G.gone.length+1) (ints G.gone++[.int .i64 p])->(wr.drew.alloc (.cells #[p] 3)).grownBy w4 gv.ownBlock->(gv.ownBlock=some gg\/gg=wr.heap.size+1) ->
    FG w0 w F T gt gf d (xg r) Y (g3,0,r,c3) (w4.setCell (gt,197) (gg,0,(G.gone.length+1),f))/\(w4.setCell (gt,197) (gg,0,(G.gone.length+1),f)).ownsRow w 3 1 (g3,0,r,c3) r (ints (X.P.take r))):=fun gg f w4 A B am=>by
    have au:=cd.o w4 B;have a6:yQ (fun r=>r=gt\/gv.ownBlock=some r) wr (w4.setCell (gt,197) (gg,0,(G.gone.length+1),f)):=(au.1.mono fun i _ hi=>zu hi).step (yQ.setCell (p:=⟨gt,197,none⟩) (zr rfl) _);have bB:gg≠gt:=fun L=>(by subst L;obtain⟨aG,M⟩:=mO A gg rfl;exact tC (au.2.trans Q.o.row) M (by decide) rfl);have bF:(w4.setCell (gt,197) (gg,0,(G.gone.length+1),f)).heap[gt]?=some (.cells (txR (gf,()) G.fo rv (.slice (some ⟨gn,0,none⟩) 32 cn) (.map (some gd)) (.map (some gp)) (gg,0,(G.gone.length+1),f) G.full G.fake) 118):=(by rw[<-gR];exact yb _ _ 197 _ _ _ (au.2.trans Q.o.row));have cP:ints G.gone++[Value.int .i64 p]=ints (G.gone++[p]):=(by simp[ints]);have bA:uc w0 (fun i=>F i\/w.heap.size<=i) gt (gf,()) (xg r) T1 wr (w4.setCell (gt,197) (gg,0,(G.gone.length+1),f)):=(by rw[db.o];refine Q.o.addGone aA.o p gg f a6 bF ?_ (am.imp id fun h=>by rw[h];omega) (by omega);rw[<-cP];have da:yQ (fun r=>r=gt) w4 (w4.setCell (gt,197) (gg,0,(G.gone.length+1),f)):=yQ.setCell (F:=fun r=>r=gt) (p:=⟨gt,197,none⟩) rfl _;exact tw A fun b hb=>da.block b (A.lt b hb).2 (fun L=>bB (by have e:gg=b:=(by simpa[Value.ownBlock]using hb);rw[e];exact L)));obtain⟨T2,u1,u2,u3,u4⟩:=bA;obtain⟨v2,v3,v4,v5,vR,vk⟩:=aa.o;have aB:∀b,(Value.slice (some ⟨g3,0,none⟩) r c3).ownBlock=some b->(w.heap.size<=b/\¬T1 b)/\b<wr.heap.size:=fun b hb=>⟨v5 b hb,(V.o.lt b hb).2⟩;refine⟨⟨⟨T2,u1,fun i hi=>?_,fun i hi=>u4 i (v3 i hi),fun L=>?_,fun b hb=>⟨(aB b hb).1.1,fun L=>?_⟩⟩,(u3.block d (xR vR) v4).trans vR,vk.trans u3 v2⟩,?_⟩
    .exact (u2 i hi).elim (v2 i) fun h=>zu (zt vk.size h)
    .exact (u2 d L).elim v4 fun h=>zY (xR vR) (xQ h)
    .exact (u2 b L).elim (aB b hb).1.2 fun h=>zY (aB b hb).2 (xQ h)
    .have U:=fj V.o (m:=r) (by have:=Hn.o;omega);rw[vj,vW (by have:=Hn.o;omega)]at U;exact tw U fun b hb=>u3.block b (aB b hb).2 (aB b hb).1.2
   have eg:r<=c3:=by
    obtain⟨_,⟨hv,_⟩|⟨g',d5,aG,hv,_,_,L,_⟩⟩:=id V.o
    .cases hv
    .cases hv;omega
   have dm:r<=(c3:Int):=(by omega);have kz:=xR Q.o.row;have kn:¬gt=wr.heap.size:=nS kz;have dc:=(V.o.lt g3 rfl).2;have eo:¬g3=wr.heap.size:=nS dc;clear hL t1 t2 t3 t4 t5 I ac bH;go_wp2
   go_region_law (first
    | (refine tF _ (by rfl) _ _ _ (by rfl) w0.heap.size 3 i0 (.int .i64 0) 1 8 lB ci.o ca.o bX.o cf.o rfl (by decide) gv G.gone.length (ints G.gone) (by rfl) (di.o.gone.alloc _) ⟨wr.heap.size,0,none⟩ 1 1 [.int .i64 p] (by rfl) (by rfl) (xE (cs:=#[.int .i64 p]) (t:=3) (fr:=(0,0)) (zT wr.drew _)) (by simp[Value.oneCell']) (by omega) (by unfold maxLen;omega) (by omega) (by simp;omega) (wr.heap.size+1) (by simp) ?_;intro gg f w4 a3 B am bf;have au:=cd.o w4 B;have cY:w4.frozen? (gt,197)=false:=zF (au.2.trans Q.o.row);have c8:=(rt (au.2.trans Q.o.row)).2.2.2.2.2.1;have HD:=za (bM.o gg f w4 a3 B am);clear a3 B am))
   all_goals
    go_wp2;go_roundw;case rel=>exact⟨r,rfl,⟨by have:=HN.o;omega,zr (by omega)⟩,HD.o.1,HD.o.2⟩
    case measure=>simp[lenV];omega
  .have b1:Hid (C=min m K):=(by show C=_;have:=HN.o;omega);have cF:C<=K:=(by omega);have cN:¬(K<(C:Int)):=(by omega);obtain⟨G,ap⟩:∃z:Tx,Hid (xg C=z):=⟨_,rfl⟩;rw[ap.o]at aT;generalize wr=wg at *
   go_wp2;go_loopw [8] (fun pv wq=>∃j:Nat,C<=j/\j<=K/\Hid (FG w0 w F T gt gf d G Y pv wq)/\Hid (wq.ownsRow w 3 1 pv j (ints (X.P.take C++List.replicate (j-C) 0)))) (fun pv _=>K-lenV pv);case atStart=>exact⟨C,zL,cF,aT,by rw[uM,List.replicate_zero,yX];exact V⟩
   case round=>
    obtain⟨j,dY,dU,bj,R⟩:=hrel;obtain⟨qj,cj,cK,_⟩:=tV R.o;subst cK;by_cases eq:j<K
    .have bJ:j<(K:Int):=(by omega);have b9:(ints (X.P.take C++List.replicate (j-C) 0))++[Value.int .i64 0]=ints (X.P.take C++List.replicate (j+1-C) 0):=(by rw[show j+1-C=(j-C)+1 by omega,qN,<-zP];simp[ints]);have cR:=za b9;have bi:Below wr wr (wr.alloc (.cells #[()] 3)):=(x9 wr wr).alloc zL _;have ck:=za (tB R.o bi);have cT:=za bj.o.keeps.size;have aR:=za bi;clear b9 bi;go_wp2_with (at_builtin;refine wpList_append_lies _ rfl _ _ 33 rfl w 3 i0 (.int .i64 0) 1 8 lB ci.o ca.o bX.o cf.o rfl (by decide) _ _ _ rfl ck.o ⟨wr.heap.size,0,none⟩ 1 1 [.int .i64 0] rfl rfl (xE (cs:=#[.int .i64 0]) (t:=3) (fr:=(0,0)) (zT wr _)) (by simp[Value.oneCell']) (by omega) (by unfold maxLen;omega) (by omega) (by have:=cT.o;simp;omega) (wr.heap.size+1) (by simp) ?_;intro g5 c5 w5 A B am bf)
     have dg:Hid (w5.ownsRow w 3 1 (g5,0,(j+1),c5) (j+1) (ints (X.P.take C++List.replicate (j+1-C) 0))):=(by show _;rw[<-cR.o];exact A);have c9:Hid (FG w0 w F T gt gf d G Y (g5,0,(j+1),c5) w5):=by
      obtain⟨⟨T1,t1,t2,t3,t4,t5⟩,I,ac⟩:=bj.o;have a6:yQ (fun r=>(Value.slice qj j cj).ownBlock=some r) (wr.alloc (.cells #[()] 3)) w5:=yQ.grown B fun r J=>J;have cC:∀b,(Value.slice qj j cj).ownBlock=some b->(F b\/w.heap.size<=b)/\¬T1 b:=fun b hb=>⟨zu (R.o.lt b hb).1,(t5 b hb).2⟩;refine⟨⟨T1,(t1.below aR.o).own ck.o cC a6,t2,t3,t4,fun b hb=>⟨(A.lt b hb).1,fun L=>?_⟩⟩,(a6.block d (xR (wy aR.o I)) fun L=>?_).trans (wy aR.o I),(ac.step (yQ.of_below aR.o)).trans a6 fun r J=>zu (R.o.lt r J).1⟩
      .injection hb with hb;have aK:g5=b:=hb;rcases am with U|U
       .exact (t5 b (aK▸U)).2 L
       .have:=t1.fin b L;omega
      .obtain⟨aG,M⟩:=mO R.o d L;exact tC I M (by decide) rfl
     clear A B am bf;go_wp2;go_roundw;case rel=>exact⟨j+1,by omega,by omega,c9,dg⟩
     case measure=>simp[lenV];omega
    .obtain rfl:j=K:=(by omega);have bJ:¬(j<(j:Int)):=(by omega);obtain⟨⟨T1,t1,t2,t3,t4,t5⟩,I,ac⟩:=bj.o;have aA:=za t1;have aa:Hid ((∀i,T1 i->T i\/w.heap.size<=i)/\(∀i,T i->T1 i)/\¬T1 d/\(∀b,(Value.slice qj j cj).ownBlock=some b->w.heap.size<=b/\¬T1 b)/\yQ T w wr):=⟨t2,t3,t4,t5,ac⟩;rw[<-b5.o]at I;have s4:=(uT I).2.2.2.2.1;have s7:=(uT I).2.2.2.2.2.2.2;have z4:wr.frozen? (d,4)=false:=zF I;have z7:wr.frozen? (d,7)=false:=zF I;have bn:=za I;have cG:Hid (X.P.take C++List.replicate (j-C) 0=X.P.take j++List.replicate (j-X.P.length) 0):=by
      show _=_;rw[Hm.o,b1.o];by_cases a7:m<=j
      .rw[vW a7,zv (vM Hm.o),zv (by rw[Hm.o];exact a7)]
      .rw[Nat.min_eq_right (by omega),uM,Nat.sub_eq_zero_of_le (by omega)]
     rw[cG.o]at R;have ba:Hid (G={x with gone:=x.gone++(X.P.drop j).reverse}):=by
      show _=_;rw[<-ap.o,a4.o,b1.o];by_cases a7:m<=j
      .rw[vW a7,yP (vM Hm.o),yP (by rw[Hm.o];exact a7)]
      .rw[Nat.min_eq_right (by omega)]
     obtain⟨N,aF⟩:∃y:Uw,Hid (⟨x.ow,x.put,X.P.take j++List.replicate (j-X.P.length) 0⟩=y)   :=⟨_,za rfl⟩;have av:Hid (UwIn N/\N.P.length=j/\N.ow.fk<900000/\N.put.length<800):=by
      show _/\_;rw[<-aF.o];refine⟨⟨fun p hp=>?_,bd.o.1⟩,?_,bd.o.2,ay⟩
      .rcases yo.1 hp with hp|hp
       .exact c6.o p (yY hp)
       .rw[(uX.1 hp).2];have:=bd.o.1;show (0:Int)<=0/\(0:Int)<=x.fake;omega
      .show (X.P.take j++List.replicate (j-X.P.length) 0).length=j;rw[zm,zj,yN];omega
     have bU:N.P=X.P.take j++List.replicate (j-X.P.length) 0:=(by rw[<-aF.o]);rw[<-bU]at R;clear t1 t2 t3 t4 t5 I ac bU;go_wp2;have bo:yQ (fun i=>i=d) wr ((wr.setCell (d,7) (qj,j,cj)).setCell (d,4) (.int .i64 nD)):=(yQ.setCell (F:=fun i=>i=d) (p:=⟨d,7,none⟩) rfl _).step (yQ.setCell (F:=fun i=>i=d) (p:=⟨d,4,none⟩) rfl _);have c0:((wr.setCell (d,7) (qj,j,cj)).setCell (d,4) (.int .i64 nD)).heap[d]?=some (.cells #[X.k,X.m,X.u,X.g,nD,X.l,X.up,(qj,j,cj)] 123):=
      yb _ _ 4 _ _ _ (yb _ _ 7 _ _ _ bn.o)
     have ce:Hid (∃q' c',FG w0 w F T gt gf d {G.wow N.ow with put:=N.put} #[X.k,X.m,X.u,X.g,nD,X.l,X.up,.slice q' j c'] (.slice q' j c') ((wr.setCell (d,7) (qj,j,cj)).setCell (d,4) (.int .i64 nD))/\vT ((wr.setCell (d,7) (qj,j,cj)).setCell (d,4) (.int .i64 nD)) (.slice q' j c') N.P):=(by have hx:({G.wow N.ow with put:=N.put})=G:=(by rw[<-aF.o,ba.o];rfl);rw[hx];refine⟨qj,cj,⟨⟨T1,aA.o.local (zu ao.o) aa.o.2.2.1 bn.o (by decide) bo,aa.o.1,aa.o.2.1,aa.o.2.2.1,aa.o.2.2.2.1⟩,c0,aa.o.2.2.2.2.trans bo fun i hi=>zu (by rw[hi];exact ao.o)⟩,?_⟩;have U:vT wr (qj,j,cj) N.P:=(by have:=wh.of_owns R.o;unfold vT;rw[av.o.2.1];exact this);exact ZU U fun b hb hl=>bo.block b hl fun L=>by obtain⟨aG,M⟩:=mO R.o b hb;exact tC bn.o (by rw[<-L];exact M) (by decide) rfl);generalize (wr.setCell (d,7) (qj,j,cj)).setCell (d,4) (.int .i64 (nD:Int))=w6 at *
     go_loopw [57] (fun iv wq=>∃k:Nat,k<=j/\iv=.int .i64 k/\Hid (∃q' c',FG w0 w F T gt gf d {G.wow (ro s.k D N k).ow with put:=(ro s.k D N k).put} #[X.k,X.m,X.u,X.g,nD,X.l,X.up,.slice q' j c'] (.slice q' j c') wq/\vT wq (.slice q' j c') (ro s.k D N k).P)) (fun iv _=>j-(intOf iv).toNat)
     case atStart=>exact⟨0,ye _,rfl,ce⟩
     case round=>
      obtain⟨k,dW,rfl,bC⟩:=hrel;obtain⟨aO,a2⟩:=X3 D HF.o.k1 av.o.1 k;obtain⟨aM,be⟩:=W6 s.k N D k;obtain⟨O,bp⟩:=zD (ro s.k D N k);rw[bp.o]at aO a2 aM be bC;have b7:=aM.trans av.o.2.1;obtain⟨q',c',⟨⟨T',a9,t1,t2,t3,t4⟩,aJ,S⟩,aN⟩:=bC.o;by_cases dT:k<j
      .have aS:k<O.P.length:=(by omega);have bL:O.P.getD k 0=O.P[k]:=(by rw[zi,zh aS];rfl);obtain⟨p',o',A⟩:∃p' o',ownU O.ow s.k O.P[k]=(p',o'):=⟨_,_,rfl⟩;have dV:64*k<nD:=(by have:=HK.o;rw[af.o]at this;omega);have dD:=HV.o.2 _ _ _ rfl;obtain⟨_,⟨h0,_⟩|⟨gv,ov,cv,cE,bc⟩⟩:=id HV.o.1
       .have:=af.o;omega
       injection cE with e1 e2 e3;subst e1 e3;clear e2;have b0:gv<w.heap.size:=zG (bc 0 _ (qg D 0 (by have:=af.o;omega)));obtain⟨Z,HZ⟩:=zA (List.replicate 64 (0:Int));have c1:∀W,(Instr.makeSlice 56 (.int .i64 64) (.int .i64 64)).run prog W=.ok (.slice (some ⟨W.heap.size,0,none⟩) 64 64) (W.alloc (.cells (u8s Z).toArray 5)):=fun W=>(by rw[HZ.o];exact jB 64 64 rfl (by omega) W);have bW:∀(r) (u),(u8s (D.drop (64*k)))[r]?=some u->(wr.alloc (.cells (u8s Z).toArray 5)).cell? ⟨gv,ov+64*k+r,none⟩=some u:=fun r u J=>(by rw[mL,yw]at J;have U:=bc (64*k+r) u J;rw[<-yC]at U;rw[wN _ _ _ (zo b0 S.size),S.cell b0 (cX.o gv rfl)];exact U);have aQ:=Kj (P:=prog) (wr.alloc (.cells (u8s Z).toArray 5)) 56 56 3 5 u8sT jw wr Z (D.drop (64*k)) 5 (zT wr _) (by rw[HZ.o];simp) gv (ov+64*k) (nD-64*k) (vc-64*k) (by rw[yB,af.o]) bW;obtain⟨W,HW⟩:=zD ((wr.alloc (.cells (u8s Z).toArray 5)).setRow wr (u8s (over Z 0 ((D.drop (64*k)).take 64))).toArray);rw[HW.o]at aQ;obtain⟨nc,cB⟩:=zD (goInt (u8s ((D.drop (64*k)).take 64)).length);rw[cB.o]at aQ;have ar:Below wr wr W:=(by rw[<-HW.o];exact xI (zB.alloc zL _) zL _);have bN:W.heap[wr.heap.size]?=some (.cells (u8s (blkB D k)).toArray 5 (0,0)):=(by rw[<-HW.o,show blkB D k=over Z 0 ((D.drop (64*k)).take 64) by rw[HZ.o];rfl];exact yh _ _ _ _ _ _ (zH));have ae:(blkB D k).length=64:=(by unfold blkB over;simp;omega);have aW:sJ W w0 (.slice (some ⟨wr.heap.size,0,none⟩) 64 64) (blkB D k):=⟨_,64,_,rfl,ae,zL,zt aq.o.size S.size,bN,by rw[zv (by rw[xX,uo,ae];exact zL)]⟩;have aV:=(aq.o.trans (S.to_below H.o.new aq.o.size)).trans (ar.mono (zt aq.o.size S.size));have bw:=za (Ku HF.o aV (a9.below ar) d {X with P:=O.P,s:=(nD:Int)} q' j c' (wy ar aJ) (wh.below aN ar) ⟨zu ao.o,t3,zt aq.o.size ao.o⟩ k aS (by show O.P.length<=8;omega) (by show O.ow.fk<1000000;have:=av.o.2.2.1;omega) (by
        have U:=aO.1 _ (zx aS);have:=av.o.2.2.1;show 0<=O.P[k]/\O.P[k]<=1000000;omega) p' o' A _ (blkB D k) aW (fun b hb L=>by
        injection hb with hb;have aK:wr.heap.size=b:=hb;have:=a9.fin b L;omega) (by show O.put.length<900;have:=av.o.2.2.2;omega))
       have ag:Hid (yQ T w wr/\(∀i,T' i->T i\/w.heap.size<=i)/\(∀i,T i->T' i)/\¬T' d/\d<wr.heap.size):=⟨S,t1,t2,t3,xR aJ⟩;have br:=za ar;have cH:Hid (ro s.k D N (k+1)=⟨o',putZ O.put p' (blkB D k),O.P.set k p'⟩):=(by show wrU s.k (ro s.k D N k) k (blkB D k)=_;rw[bp.o];unfold wrU;rw[bL,A]);have bb:=za b7;have dR:=zW (64*k) (by omega);have d9:(64*k)<=(nD:Int):=(by omega);have em:64*k<=vc:=(by omega);have d7:¬vc=64*k:=(by omega);have dF:k<(j:Int):=(by omega);clear a9 t1 t2 t3 t4 aJ aN S A b7 aS bL bc bW ar bN ae aW aV aO a2 aM be;go_wp2_with fail
       refine bw.o.mono ?_;rintro e w7 ⟨rfl,T2,g2,c2,b6,u1,u2,u3,u4,⟨u5,u6,u7⟩,cL,cc,u9⟩;have cJ:Hid (∃q' c',FG w0 w F T gt gf d {G.wow (ro s.k D N (k+1)).ow with put:=(ro s.k D N (k+1)).put} #[X.k,X.m,X.u,X.g,nD,X.l,X.up,.slice q' j c'] (.slice q' j c') w7/\vT w7 (.slice q' j c') (ro s.k D N (k+1)).P):=by
        rw[cH.o];obtain⟨v1,v2,v3,v4,v5⟩:=ag.o;have bO:=zt v1.size br.o.size;refine⟨some ⟨g2,0,none⟩,c2,⟨⟨T2,b6,fun r J=>?_,fun r J=>u2 r (v3 r J),fun L=>?_,fun b hb=>?_⟩,?_,?_⟩,?_⟩
        .rcases u1 r J with U|U
         .exact v2 r U
         .exact zu (zt bO U)
        .rcases u1 d L with U|U
         .exact v4 U
         .exact zY v5 (xQ (zt br.o.size U))
        .injection hb with hb;have aK:g2=b:=hb;rw[<-aK];exact⟨zt bO u5,u6⟩
        .have:=u4;rw[show O.P.length=j from bb.o]at this;exact this
        .refine (v1.step (yQ.of_below br.o)).trans u3 fun r J=>?_;rcases J with J|J
         .exact v2 r J
         .exact zu (by rw[J];exact ao.o)
        .have b3:(O.P.set k p').length=j:=(by rw[xK,bb.o]);refine⟨by simp[ints,bb.o],zu ⟨g2,0,c2,by rw[b3],fun r u J=>?_⟩⟩;rw[yO,zC cc,<-zO];have dh:r<O.P.length:=(by have:=(zJ.1 J).1;simpa[ints]using this);have h3:(cL.toList.take O.P.length)[r]?=some u:=by rw[u9];exact J
         rwa [zI,ze dh]at h3
       clear b6 u1 u2 u3 u4 u5 u6 u7 cc u9 bw HW aQ c1;go_wp2;go_roundw;case rel=>exact⟨k+1,by omega,by go_num,cJ⟩
       case measure=>simp[intOf];omega
      .obtain rfl:k=j:=(by omega);have a0:ju (fun r=>F r\/T' r) {X with P:=O.P,s:=nD} wr q' k c':=by
        refine ZI aN fun b hb bf hG=>?_;rcases hG with hG|hG
        .exact zY (cy.o b hG) (xQ (t4 b hb).1)
        .exact (t4 b hb).2 hG
       have bT:=a9.outer fun r _ J=>zr J;have cO:=za (lP bT i hi {X with P:=O.P,s:=(nD:Int)} q' k c' a0 (by show G.dirty.length<900;rw[ba.o];exact az));have ag:Hid ((∀r,T' r->T r\/w.heap.size<=r)/\yQ T w wr/\∀r,T r->T' r):=⟨t1,S,t2⟩;obtain⟨z0,z1,z2,z3,z4,z5,z6,z7⟩:=uT aJ;clear a9 t1 t2 t3 t4 aN S a0 bT aO a2 aM be;go_wp2_with fail
       refine cO.o.mono ?_;rintro e w7 ⟨rfl,T2,s1,s2,s3,s4⟩;have cS:=za s1;have bm:Hid ((∀r,T2 r->T r\/w.heap.size<=r)/\yQ T w w7/\∀r,T r->T2 r):=⟨fun r J=>(s2 r J).elim (ag.o.1 r) fun h=>zu (zt ag.o.2.1.size h),ag.o.2.1.trans s3 ag.o.1,fun r J=>s4 r (ag.o.2.2 r J)⟩;clear s1 s2 s3 s4;go_wp2;refine⟨rfl,.tuple #[],(by simp[results,results127,go_sem]),?_⟩;refine⟨rfl,T2,?_,bm.o.1,bm.o.2.1,bm.o.2.2⟩;have h9:=cS.o;rw[ba.o,<-bp.o,<-aF.o,<-af.o]at h9;unfold Tx.fillX;rw[HK.o];exact h9
