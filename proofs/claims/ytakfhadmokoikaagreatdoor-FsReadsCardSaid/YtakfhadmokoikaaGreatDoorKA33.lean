import Derived.Test.YtakfhadmokoikaaGreatDoorKA32
set_option maxHeartbeats 0
set_option linter.all false
set_option maxRecDepth 100000
namespace Go.Proofs.YtakfhadmokoikaaGreatDoor
open Go.Proofs.Tryz Go.RowKit
variable {B gf gt k n:Nat} {F F1 T:Nat->Prop} {a:Addr} {fp v:Value} {o:Ow} {p:Int} {s:Fs} {w w' w0:World} {xs:List Value}
theorem UR {p':Int} {o':Ow} (h:ownU o k p=(p',o')) (f:k<=256) (g:0<=p/\p<=1000000) (e:0<=o.fk/\o.fk<=1000000):0<=p'/\p'<=1000001/\o.fk<=o'.fk/\o'.fk<=o.fk+1:=by
 have a:∀(o:Ow) (p':Int) (o':Ow),0<=o.fk/\o.fk<=1000000->qz o k=(p',o')->0<=p'/\p'<=1000001/\o.fk<=o'.fk/\o'.fk<=o.fk+1:=by
  intro o p' o' e h;unfold qz at h;cases d:jg o.fo k with
  | none=>
   rw[d]at h;injection h with c b;subst c b;show _/\_/\o.fk<=o.fk+1/\o.fk+1<=o.fk+1;omega
  | some n=>
   rw[d]at h;injection h with c b;subst c b;have:=(V4 d).2.1;show _/\_/\o.fk<=o.fk/\o.fk<=o.fk+1;omega
 unfold ownU at h;split at h
 .exact a _ _ _ e h
 .split at h
  .exact a {o with fo:=hasF o.fo (del (o.fo.hs 0) p.toNat)} _ _ e h
  .injection h with c b;subst c b;omega
theorem LY {x:Tx} (hf:FsAt w0 gf s F1 a) (hb:Below w0 w0 w) (h:TxAt w w0 F gt (gf,()) x T) (gb:Nat) (X:Pn) (q:Option Addr) (n c:Nat)
 (hr:w.heap[gb]?=some (.cells #[X.k,X.m,X.u,X.g,X.s,X.l,X.up,(q,n,c)] 59)) (hX:vQ w (q,n,c) X.P) (a4:F gb/\¬T gb/\w0.heap.size<=gb)
 (k:Nat) (hk:k<X.P.length) (aF:X.P.length<=8) (aA:x.fake<1000000) (aB:0<=X.P[k]/\X.P[k]<=1000000) p' (o':Ow) (ho:ownU x.ow s.k X.P[k]=(p',o')) (v:Value) (D:List Int) (hv:su w w0 v D) (hvT:∀b,v.ownBlock=some b->¬T b) (hpl:x.put.length<900):
 Calls prog 36 #[(gt,()),(gb,()),k,v] w
  (fun e w'=>e=.returned (.tuple #[])/\∃T' g' c',TxAt w' w0 F gt (gf,()) {x.wow o' with put:=putZ x.put p' D} T'/\(∀i,T' i->T i\/w.heap.size<=i)/\(∀i,T i->T' i) /\
   yK (fun i=>T i\/i=gb) w w'/\w'.heap[gb]?=some (.cells #[X.k,X.m,X.u,X.g,X.s,X.l,X.up,(g',0,X.P.length,c')] 59) /\
   (w.heap.size<=g'/\¬T' g'/\X.P.length<=c')/\∃cu,w'.heap[g']?=some (.cells cu 3)/\cu.toList.take X.P.length=ints (X.P.set k p')):=by
 have H:=Lib.hid h;have HF:=Lib.hid hf;have bA:=Lib.hid hb;have HO:=Lib.hid ho;have HV:=Lib.hid hv;have aV:=Lib.hid hvT;have HX:=Lib.hid hX;have HR:=Lib.hid hr;have c7:=(uI hr).2.2.2.2.2.2.2;have f7:w.frozen? (gb,7)=false:=zF hr;have aK:gb<w.heap.size:=xL hr;have a9:=Lib.hid (Ub (q,n,c) X.P w hX (by omega));clear ho hv hX;go_enter func36,ntmps36;go_wp2_with fail
 refine a9.o.mono ?_;intro e w1 a3;obtain⟨v1,rfl,az,B,_⟩:=a3;obtain⟨_,⟨bt,h0⟩|⟨d,O,I,rfl,ag,ae,al,aX,a2,U⟩⟩:=id az
 .omega
 obtain⟨N,HN⟩:=zD X.P.length;have aS:k<N:=by rw[<-HN.o];exact hk
 have bh:(k:Int)<(N:Int):=by omega
 rw[HN.o]at al U ⊢;have b3:=Lib.hid B;have H1:=Lib.hid (h.grow B d ag);have ac:=Lib.hid (we B hr);have d7:=(B.cell (p:=⟨gb,7,none⟩) aK).trans c7;have e7:w1.frozen? (gb,7)=false:=zF ac.o;have ab:gb≠d:=by omega
 have b1:=Lib.hid ae;obtain⟨j,G⟩:=zD (w1.setCell (gb,7) (d,0,N,O));have aj:Hid (yK (fun i=>i=gb) w j):=by show _;rw[<-G.o];exact (yK.of_below B).step (yK.setCell (F:=fun i=>i=gb) (p:=⟨gb,7,none⟩) rfl _)
 have ao:Hid (TxAt j w0 (fun i=>F i\/i=d) gt (gf,()) x T):=by show _;rw[<-G.o];exact H1.o.local (zt a4.1) a4.2.1 ac.o (by decide) (yK.setCell (F:=fun i=>i=gb) (p:=⟨gb,7,none⟩) rfl _)
 have L:Hid (Below w0 w0 j):=hb.trans (aj.o.to_below (fun i z=>by rw[z];exact a4.2.2) hb.size);have bC:Hid (FsAt j gf s F1 a):=hf.below L.o;have af:Hid (j.heap[gb]?=some (.cells #[X.k,X.m,X.u,X.g,X.s,X.l,X.up,(d,0,N,O)] 59)):=by show _=_;rw[<-G.o];exact zX _ _ 7 _ _ _ ac.o
 have K:Hid (j.heap[d]?=some (.cells I 3)):=by show _=_;rw[<-G.o];exact (yC _ _ _ _ (yF ab)).trans ae
 have n7:j.cell? (gb,7)=some (.slice (some ⟨d,0,none⟩) N O):=(uI af.o).2.2.2.2.2.2.2;obtain⟨y,Hy⟩:=zD (X.P[k]' hk);have nk:j.cell? (d,k)=some (.int .i64 y):=by
  rw[zC K.o,<-zP];have h3:(I.toList.take (N*1))[k]?=(ints X.P)[k]? :=by rw[U]
  rw[zI,ze (by omega),mt X.P k hk,Hy.o]at h3;exact h3
 have fk:j.frozen? (d,k)=false:=zF K.o;have av:Hid (ownU x.ow s.k y=(p',o')):=by show _;rw[<-Hy.o];exact HO.o
 obtain⟨bE,b6,_⟩:=UR av.o HF.o.k1 (by rw[<-Hy.o];exact aB) (⟨H.o.fake.1,Int.le_of_lt aA⟩:0<=x.fake/\x.fake<=1000000);have aU:=Lib.hid U;have Q:Hid (N<=O/\I.size=O*1/\w.heap.size<=d):=⟨al,a2,ag⟩;clear az B ae U al aX a2 ag a9
 go_upto_region 1 with fail
 rw[G.o];have a6:Hid (∀W:World,Below j j W->Calls prog 82 #[(gt,()),y] W
  (fun e w'=>e=.returned p'/\vS w0 (fun i=>F i\/i=d) gt (gf,()) (x.wow o') T W w')):=fun W V=>by
  have:=Z2 HF.o (L.o.trans (V.mono L.o.size)) (ao.o.below V) aA y (by rw[<-Hy.o];exact aB);rw[av.o]at this;exact this
 have f:Hid (¬T gb/\¬T d/\gb<j.heap.size/\d<j.heap.size):=⟨a4.2.1,fun M=>by have:=ao.o.fin d M;have h2:=h.fin d M;have h3:=Q.o.2.2;omega,xL af.o,xL K.o⟩;have HS:∀W:World,(∃W0,Below j j W0/\yK T W0 W)->(W.cell? (gb,7)=some (.slice (some ⟨d,0,none⟩) N O)/\W.cell? (d,k)=some (.int .i64 y)/\W.frozen? (d,k)=false):=fun W ⟨W0,V,hk⟩=>
  ⟨(
   (hk.cell (zm f.o.2.2.1 V.size) f.o.1).trans (V.cell (p:=⟨gb,7,none⟩) f.o.2.2.1)).trans n7,((hk.cell (zm f.o.2.2.2 V.size) f.o.2.1).trans (V.cell (p:=⟨d,k,none⟩) f.o.2.2.2)).trans nk,
   zF ((hk.block d (zm f.o.2.2.2 V.size) f.o.2.1).trans (we V K.o))⟩
 have ak:=Lib.hid HS;have m0:=ak.o j.drew ⟨j.drew,zB.drew,yK.refl _ _⟩;clear HS c7 f7 d7 e7
 go_cut [0,1,2,3] (fun s0 s1 s2 s3 wx=>s0=.pointer (some ⟨gt,0,none⟩)/\s1=.pointer (some ⟨gb,0,none⟩)/\s2=.int .i64 (k:Int)/\s3=v/\∃W,Hid (vS w0 (fun i=>F i\/i=d) gt (gf,()) (x.wow o') T j.drew W)/\Hid (wx=W.setCell (d,k) (.int .i64 p')))
 case first=>
  go_region_with (first
   | (go_at_call 82;go_loud ((with_reducible refine (a6.o j.drew zB.drew).mono ?_);(rintro e w3 ⟨rfl,ad⟩);(obtain⟨bq,br,bp⟩:=ak.o w3 ⟨j.drew,zB.drew,ad.choose_spec.2.2.1⟩);(have aL:=Lib.hid ad);clear ad)))
  all_goals
   go_wp2_with fail
   go_meet
   case rel=>exact⟨rfl,rfl,rfl,rfl,_,aL,rfl⟩
 case rest=>
  obtain⟨rfl,rfl,rfl,rfl,W,⟨T',t1,t2,t3,t4⟩,S⟩:=hcut;have ap:=Lib.hid t1;have J:¬T' gb/\¬T' d:=⟨fun M=>(t2 gb M).elim f.o.1 (fun C=>yb C (rh f.o.2.2.1)),fun M=>(t2 d M).elim f.o.2.1 (fun C=>yb C (rh f.o.2.2.2))⟩;have R:W.heap[d]?=some (.cells I 3):=(t3.block d f.o.2.2.2 f.o.2.1).trans K.o;have a0:W.heap[gb]?=some (.cells #[X.k,X.m,X.u,X.g,X.s,X.l,X.up,(d,0,N,O)] 59):=(t3.block gb f.o.2.2.1 f.o.1).trans af.o;have aq:Hid (TxAt wc w0 (fun i=>F i\/i=d) gt (gf,()) (x.wow o') T'):=by show _;rw[S.o];exact ap.o.local (zu rfl) J.2 R (by decide) (yK.setCell (F:=fun i=>i=d) (p:=⟨d,k,none⟩) rfl _)
  have bf:d<W.heap.size:=xL R;obtain⟨Y,ax⟩:=zD (I.setIfInBounds k (.int .i64 p'));have ay:Hid (wc.heap[d]?=some (.cells Y 3)):=by show _=_;rw[S.o,<-ax.o];exact zX _ _ k _ _ _ R
  have aw:Hid (wc.heap[gb]?=some (.cells #[X.k,X.m,X.u,X.g,X.s,X.l,X.up,(d,0,N,O)] 59)):=by show _=_;rw[S.o];exact (yC _ _ _ _ ab).trans a0
  have ar:Hid (Y.toList.take N=ints (X.P.set k p')):=by show _=_;rw[<-ax.o];have C:=aU.o;rw[vD]at C;rw[wP,List.take_set,C];unfold ints;rw[uZ]
  have a7:Hid (yK (fun i=>T i\/i=gb) w wc):=by show _;rw[S.o];have k1:yK (fun i=>T i\/i=gb) w j:=aj.o.mono fun i _ z=>zu z;have k2:yK (fun i=>T i\/i=gb) j W:=(yK.of_below (zB.drew)).step (t3.mono fun i _ z=>zt z);exact (k1.step k2).trans (yK.setCell (F:=fun i=>i=d) (p:=⟨d,k,none⟩) rfl _) fun i z=>zu (by rw[z];exact Q.o.2.2)
  have ai:Hid ((∀i,T' i->T i\/w.heap.size<=i)/\∀i,T i->T' i):=⟨fun i z=>(t2 i z).imp id (fun C=>zr aj.o.size C),t4⟩;have an:=Lib.hid J;obtain⟨rv,gn,cn,gd,gp,gv,E,pl,hl⟩:=aq.o.lies;obtain⟨_,_,_,_,aa,_⟩:=sZ hl.row;have n7:wc.cell? (gb,7)=some (.slice (some ⟨d,0,none⟩) N O):=(uI aw.o).2.2.2.2.2.2.2;have nk:wc.cell? (d,k)=some (.int .i64 p'):=by rw[zC ay.o,<-zP];have h3:(Y.toList.take N)[k]?=(ints (X.P.set k p'))[k]? :=(by rw[ar.o]);rw[zI,ze aS,mt _ k (by rw[xG];exact hk),List.getElem_set_self]at h3;exact h3
  have aZ:=cell_regrown aa;have k7:=cell_regrown n7;have kk:=cell_regrown nk;have HL:=Lib.hid hl;have aG:Hid (su wc w0 u3 D):=by
   obtain⟨g,aW,aI,z1,z2,z3,z4,Z,z6⟩:=HV.o;refine⟨g,aW,aI,z1,z2,z3,z4,(a7.o.block g (xL Z) (fun hT=>?_)).trans Z,z6⟩;rcases hT with hT|hT
   .exact aV.o g (by rw[z1];rfl) hT
   .rw[hT,HR.o]at Z;injection Z with Z;injection Z with _ Z;exact yb Z (by decide)
  clear t1 t2 t3 t4 R a0 J hl aa n7 nk m0 a6 ak;go_wp2_with fail
  refine fF 12 (by kernel_rfl) (by kernel_rfl) ?_;simp only[wV,xE,wX,wz]
  repeat (first
   | go_big_quiet_skip
   | (go_big_quiet_want;go_big_quiet_op;go_big_quiet_on))
  refine vq ?_;intro w5 aP;have A:=Lib.hid (sL aP);have a8:Hid (MapL prog 3 w5 gp pl):=HL.o.puts.of_block (A.o.block _ HL.o.puts.lt);have b7:pl.length<900:=by rw[HL.o.secs.len];exact hpl
  go_wp2_with (at_mapUpdate;refine K1 _ rfl _ _ _ _ rfl 3 23 intT mz gp pl p' u3 rfl a8.o (by omega) rfl rfl (by unfold InZ;omega) ?_;intro w6 aR aH)
  go_end0
  have ah:yK (fun i=>i=gp) w5 w6:=yK.grown aH.grown (fun r hr=>by injection hr with hr;exact hr.symm);have aM:su w5 w0 u3 D:=Zt aG.o fun g cc _ M=>A.o.block g (xL M);have aO:=(HL.o.below A.o).putMap (aq.o.below A.o) p' u3 D aM ah aR (by show x.put.length<1000;omega);have a1:∀(b:Nat) (c:Array Value) (t:TypeId),wc.heap[b]?=some (.cells c t)->w6.heap[b]?=some (.cells c t):=fun b c t M=>by have h5:=we A.o M;exact (ah.block b (xL h5) (tG h5 a8.o)).trans h5
  refine⟨rfl,T',aO.outer (fun i _ z=>zt z),ai.o.1,ai.o.2,?_,d,O,?_,⟨Q.o.2.2,an.o.2,?_⟩,Y,a1 d _ _ ay.o,?_⟩
  .refine (a7.o.step (yK.of_below A.o)).trans ah fun i z=>?_;rcases ai.o.1 gp HL.o.tp with C|C
   .exact zt (zt (by rw[z];exact C))
   .exact zu (by rw[z];exact C)
  .rw[HN.o];exact a1 gb _ _ aw.o
  .rw[HN.o];exact Q.o.1
  .rw[HN.o];exact ar.o
def blkB (D:List Int) (i:Nat):List Int:=over (List.replicate 64 0) 0 (((D.drop (64*i))).take 64)
theorem LC {P:Program} (w:World) (k n o f:TypeId) (p:P.underlying k=some (.slice f)) (l:(P.info? f).map (·.size)=some 1) (g:Nat) (cur D:List Int) (t:TypeId) (q:w.heap[g]?=some (.cells (u8s cur).toArray t (0,0))) (r:cur.length=64)
 (h i m c:Nat) (s:D.length=m) (u:∀(j:Nat) (x:Value),(u8s D)[j]?=some x->w.cell? (h,i+j)=some x):
 (Builtin.copy_ #[k,n] o #[.slice (some ⟨g,0,none⟩) 64 64,(h,i,m,c)]).run P w=.ok (goInt (u8s (D.take 64)).length) (w.setRow g (u8s (over cur 0 (D.take 64))).toArray):=by
 have a:=rE (P:=P) w k n o f g 0 64 64 ⟨h,i,none⟩ m c (u8s cur).toArray t (u8s (D.take 64)) p l q (by rw[vO,zi,s];exact Nat.min_comm 64 m) (fun j v d=>by
  have b:(⟨h,i,none⟩:Addr).add j=⟨h,i+j,none⟩:=by unfold Addr.add;split<;>simp_all
  rw[b];rw[od,zI]at d;split at d
  .exact u j v d
  .cases d) (by rw[yL,vO,zi,show (u8s cur).toArray.size=64 by simp[vO,r]];exact Nat.min_le_left _ _) (oR _)
 have e:((u8s cur).toArray.toList.take 0++u8s (D.take 64)++(u8s cur).toArray.toList.drop (0+(u8s (D.take 64)).length)).toArray=(u8s (over cur 0 (D.take 64))).toArray:=by unfold over;rw[qh,qh,xV,xE,xE,mr,vO];rfl
 rw[e]at a;exact a
theorem mI (h:w.ownsRow B 3 1 v n xs) (b:Nat) (m:v.ownBlock=some b):∃cur,w.heap[b]?=some (.cells cur 3):=by
 obtain⟨_,⟨a,_⟩|⟨g,c,cur,a,j,d,l,i,k,f⟩⟩:=h
 .subst a;cases m
 .subst a;have e:g=b:=by simpa[Value.ownBlock]using m
  subst e;exact⟨cur,d⟩
theorem uP.addGone {x:Tx} {rv:Value} {gn cn gd gp:Nat} {gv:Value} {E:List Nd} {pl:List (Int×Value)} (h:uP w B F T gt fp x rv gn cn gd gp gv E pl) (v:TxAt w B F gt fp x T) (p:Int) (g' u:Nat)
 (y:yK (fun i=>i=gt\/gv.ownBlock=some i) w w') (A:w'.heap[gt]?=some (.cells (txR fp x.fo rv (.slice (some ⟨gn,0,none⟩) 32 cn) (.map (some gd)) (.map (some gp)) (g',0,(x.gone.length+1),u) x.full x.fake) 150))
 (z:w'.ownsRow B 3 1 (g',0,(x.gone.length+1),u) (x.gone.length+1) (ints (x.gone++[p]))) (C:gv.ownBlock=some g'\/w.heap.size<=g') (D:x.gone.length<1000):
 vS B F gt fp {x with gone:=x.gone++[p]} T w w':=by
 have f:yK T w w':=y.mono fun i _ c=>by
  rcases c with rfl|c
  .exact v.self
  .exact h.tg i c
 have k:∀b,b<w.heap.size->b≠gt->gv.ownBlock≠some b->w'.heap[b]?=w.heap[b]? :=fun b r q s=>y.block b r (fun e=>e.elim q s);have n:∀i,(T i\/i=g')->T i\/w.heap.size<=i:=fun i c=>by
  rcases c with c|rfl
  .exact zt c
  .exact C.imp (h.tg i) id
 have m:g'<w'.heap.size:=(z.lt g' rfl).2;have l:B<=g':=(z.lt g' rfl).1;refine⟨fun i=>T i\/i=g',?_,n,f,fun i c=>zt c⟩;refine uP.at (x:={x with gone:=x.gone++[p]}) (rv:=rv) (gn:=gn) (cn:=cn) (gd:=gd) (gp:=gp) (gv:=.slice (some ⟨g',0,none⟩) (x.gone.length+1) u) (E:=E) (pl:=pl) ⟨A,lB h.rows f n,?_,qQ h.nds f n,?_,?_,?_,h.ne,?_,zt h.tn,zt h.td,zt h.tp,fun b d=>zu ?_⟩ (zt v.self) v.len (fun i c=>?_) (fun i c=>?_) ?_ v.put v.dirty v.rows v.fake
 .refine uV h.own fun b d=>k b (h.own.lt b d).2 (rt h.own h.row (by decide) b d) fun e=>?_;obtain⟨j,a⟩:=mI h.gone b e;exact rt h.own a (by decide) b d rfl
 .refine h.dirt.of_block (k gd h.dirt.lt (yF (tG h.row h.dirt)) fun e=>?_);obtain⟨j,a⟩:=mI h.gone gd e;exact tG a h.dirt rfl
 .refine h.puts.of_block (k gp h.puts.lt (yF (tG h.row h.puts)) fun e=>?_);obtain⟨j,a⟩:=mI h.gone gp e;exact tG a h.puts rfl
 .refine h.secs.keep fun g t _ e=>k g (xL e) (tj e h.row (by decide)) fun o=>?_;obtain⟨j,a⟩:=mI h.gone g o;exact tj e a (by decide) rfl
 .show w'.ownsRow B 3 1 _ (x.gone++[p]).length (ints (x.gone++[p]));rw[zl];exact z
 .simpa[Value.ownBlock,eq_comm]using d
 .rcases c with c|rfl
  .exact zm (v.fin i c) y.size
  .exact m
 .rcases c with c|rfl
  .exact v.new i c
  .exact l
 .show (x.gone++[p]).length<=1000;rw[zl];exact D
theorem Yd (e:k<=256) (c:256<=o.fk) (d:0<=p/\p<=o.fk):0<=(ownU o k p).1/\(ownU o k p).1<=(ownU o k p).2.fk/\o.fk<=(ownU o k p).2.fk/\(ownU o k p).2.fk<=o.fk+1:=by
 have a:∀o:Ow,256<=o.fk->0<=(qz o k).1/\(qz o k).1<=(qz o k).2.fk/\o.fk<=(qz o k).2.fk/\(qz o k).2.fk<=o.fk+1:=fun o h=>by
  unfold qz;cases b:jg o.fo k with
  | none=>show 0<=o.fk+1/\o.fk+1<=o.fk+1/\o.fk<=o.fk+1/\o.fk+1<=o.fk+1;omega
  | some n=>
   have:=(V4 b).2.1;show 0<=(n:Int)/\(n:Int)<=o.fk/\o.fk<=o.fk/\o.fk<=o.fk+1;omega
 unfold ownU;split
 .exact a o c
 .split
  .exact a {o with fo:=hasF o.fo (del (o.fo.hs 0) p.toNat)} c
  .exact⟨d.1,d.2,wO _,by show o.fk<=o.fk+1;omega⟩
structure Uw where
 ow:Ow
 put:List (Int×List Int)
 P:List Int
def wrU (k:Nat) (y:Uw) (i:Nat) (D:List Int):Uw:=⟨(ownU y.ow k (y.P.getD i 0)).2,putZ y.put (ownU y.ow k (y.P.getD i 0)).1 D,y.P.set i (ownU y.ow k (y.P.getD i 0)).1⟩
def sW (k:Nat) (D:List Int) (y:Uw):Nat->Uw
 | 0=>y
 | i+1=>wrU k (sW k D y i) i (blkB D i)
def UwIn (y:Uw):Prop:=(∀p∈y.P,0<=p/\p<=y.ow.fk)/\256<=y.ow.fk
theorem UwIn.at {y:Uw} (h:UwIn y) (i:Nat):0<=y.P.getD i 0/\y.P.getD i 0<=y.ow.fk:=by
 rw[zh];have:=h.2;cases a:y.P[i]? with
 | none=>exact⟨wO _,by show (0:Int)<=_;omega⟩
 | some p=>exact h.1 p (xK a)
theorem ZD {y:Uw} (i:Nat) (D:List Int) (f:k<=256) (h:UwIn y):UwIn (wrU k y i D)/\(wrU k y i D).ow.fk<=y.ow.fk+1:=by
 obtain⟨a,b,c,d⟩:=Yd f h.2 (h.at i);refine⟨⟨fun p e=>?_,wN h.2 c⟩,d⟩;rcases vu e with e|rfl
 .exact⟨(h.1 p e).1,wN (h.1 p e).2 c⟩
 .exact⟨a,b⟩
theorem ZY (k:Nat) (y:Uw) (i:Nat) (D:List Int):(wrU k y i D).P.length=y.P.length/\(wrU k y i D).put.length<=y.put.length+1:=⟨xG ..,oS _ _ _⟩
theorem Xi {k:Nat} {y:Uw} (D:List Int) (e:k<=256) (h:UwIn y):∀i,UwIn (sW k D y i)/\(sW k D y i).ow.fk<=y.ow.fk+i
 | 0=>⟨h,by show y.ow.fk<=_;omega⟩
 | i+1=>by obtain⟨a,b⟩:=Xi D e h i;obtain⟨c,d⟩:=ZD i (blkB D i) e a;exact⟨c,by show (wrU k (sW k D y i) i (blkB D i)).ow.fk<=_;omega⟩
theorem Wd (k:Nat) (y:Uw) (D:List Int):∀i,(sW k D y i).P.length=y.P.length/\(sW k D y i).put.length<=y.put.length+i
 | 0=>⟨rfl,zL⟩
 | i+1=>by obtain⟨a,b⟩:=Wd k y D i;obtain⟨c,d⟩:=ZY k (sW k D y i) i (blkB D i);exact⟨c.trans a,by show (wrU k (sW k D y i) i (blkB D i)).put.length<=_;omega⟩
def Tx.fillX (x:Tx) (k i:Nat) (X:Pn) (D:List Int):Tx:=
 let m:=(D.length+63) / 64
 let y:=sW k D ⟨x.ow,x.put,X.P.take m++List.replicate (m-X.P.length) 0⟩ m
 {x.wow y.ow with put:=y.put,nodes:=x.nodes.set i {X with P:=y.P,s:=(D.length:Int)},dirty:=putZ x.dirty ((i:Int)+1) (.bool true),gone:=x.gone++(X.P.drop m).reverse}
theorem TxAt.own {base:Nat} {x:Tx} (h:TxAt w B F gt fp x T) (j:w.ownsRow base 3 1 v n xs) (f:∀b,v.ownBlock=some b->F b/\¬T b) (g:yK (fun r=>v.ownBlock=some r) w w'):TxAt w' B F gt fp x T:=by
 cases c:v.ownBlock with
 | none=>exact h.below (g.to_below (fun i a=>by rw[c]at a;cases a) zL)
 | some b=>
  obtain⟨d,e⟩:=mI j b c;exact h.local (f b c).1 (f b c).2 e (by decide) (g.mono fun i _ a=>by rw[c]at a;injection a with a;exact a.symm)
structure FG (w0 w:World) (F T:Nat->Prop) (gt gf gb:Nat) (x:Tx) (row:Array Value) (pv:Value) (wq:World):Prop where
 ex:∃T',TxAt wq w0 (fun i=>F i\/w.heap.size<=i) gt (gf,()) x T'/\(∀i,T' i->T i\/w.heap.size<=i)/\(∀i,T i->T' i)/\¬T' gb/\∀b,pv.ownBlock=some b->w.heap.size<=b/\¬T' b
 row:wq.heap[gb]?=some (.cells row 59)
 keeps:yK T w wq
theorem hQ {x:Tx} (hf:FsAt w0 gf s F1 a) (hb:Below w0 w0 w) (h:TxAt w w0 F gt (gf,()) x T) (hF:∀i,F i->i<w.heap.size)
 (i:Nat) (hi:i<32) (X:Pn) (hX:x.nodes[i]?=some X) (v:Value) (D:List Int) (hv:tQ w v D) (aj:∀b,v.ownBlock=some b->¬T b) (hD:D.length<=512) (ay:X.P.length<=8) (al:∀p∈X.P,0<=p/\p<=x.fake) (ao:256<=x.fake/\x.fake<900000) (ax:x.gone.length<=900) (az:x.put.length<800) (a0:x.dirty.length<900):
 Calls prog 73 #[(gt,()),.int .i64 ((i:Int)+1),v] w
  (fun e w'=>e=.returned (.tuple #[])/\vS w0 F gt (gf,()) (x.fillX s.k i X D) T w w'):=by
 have H:=Lib.hid h;have HF:=Lib.hid hf;have ar:=Lib.hid hb;have HV:=Lib.hid hv;have cY:=Lib.hid aj;have cz:=Lib.hid hF;have c8:=Lib.hid al;have bd:=Lib.hid ao;have cM:=Lib.hid ax;obtain⟨K,HK⟩:=zD ((D.length+63) / 64);have ef:K<=8:=by rw[<-HK.o];omega
 have bx:=Lib.hid (mp h i hi X hX);have bD:Hid (∀W:World,Calls prog 34 #[D.length] W fun e w'=>e=.returned K/\W=w'):=fun W=>by
  have:=WY (D.length:Int) W (by omega) (by omega);have e:tX (D.length:Int)=(K:Int):=by unfold tX;rw[<-HK.o];split<;>omega
  rw[e]at this;exact this
 obtain⟨nD,ag⟩:=zD D.length;obtain⟨vp,vc,de⟩:=mH hv.1 nD ag.o;subst de;rw[ag.o]at bD hD;clear h hf hb hv aj hF hX al ao ax;go_enter func73,ntmps73;go_wp2_with fail
 refine bx.o.mono ?_;rintro e w1 ⟨q,n,c,rfl,a1,cl⟩;have aM:=Lib.hid cl;have ch:=Lib.hid a1;clear cl a1 bx;go_wp2_with fail
 refine (bD.o _).mono ?_;rintro e w2 ⟨rfl,rfl⟩;obtain⟨d,bk⟩:=zD w1.heap.size;have bg:Hid (Below w w (w1.alloc (.cells #[X.k,X.m,X.u,X.g,X.s,X.l,X.up,(q,n,c)] 59))):=aM.o.alloc aM.o.size _;have aZ:Hid ((w1.alloc (.cells #[X.k,X.m,X.u,X.g,X.s,X.l,X.up,(q,n,c)] 59)).heap[d]?=some (.cells #[X.k,X.m,X.u,X.g,X.s,X.l,X.up,(q,n,c)] 59)):=by rw[<-bk.o];exact zH
 have bz:Hid (vQ (w1.alloc (.cells #[X.k,X.m,X.u,X.g,X.s,X.l,X.up,(q,n,c)] 59)) (q,n,c) X.P):=xT.below ch.o.now (zB.alloc zL _);have ap:Hid (w.heap.size<=d):=by show _;rw[<-bk.o];exact aM.o.size
 rw[bk.o];generalize w1.alloc (.cells #[X.k,X.m,X.u,X.g,X.s,X.l,X.up,(q,n,c)] 59)=w2 at *
 have d6:Hid (d<w2.heap.size):=xL aZ.o;have c7:=(uI aZ.o).2.2.2.2.2.2.2;clear ch aM;go_wp2_with fail
 refine (Ub (q,n,c) X.P w2 bz.o (by omega)).mono ?_;rintro e w3 ⟨v3,rfl,ak,aJ,_⟩;have ak:=mw ak bg.o.size;have bV:TxAt w3 w0 (fun i=>F i\/w.heap.size<=i) gt (gf,()) x T:=(H.o.outer fun i hi hg=>hg.elim id fun h=>yb h (rh hi)).below (Below.step bg.o aJ);have aI:∀b,w.heap.size<=b->¬T b:=fun b hb L=>yb (H.o.fin b L) (xM hb);have et:=Lib.hid aI;obtain⟨q3,c3,bq,_⟩:=tR ak;subst bq;have an:Hid (FG w0 w F T gt gf d x #[X.k,X.m,X.u,X.g,X.s,X.l,X.up,(q,n,c)] (q3,X.P.length,c3) w3):=
  ⟨⟨T,bV,fun i hi=>zt hi,fun _ hi=>hi,aI d ap.o,fun b hb=>⟨(ak.lt b hb).1,aI b (ak.lt b hb).1⟩⟩,we aJ aZ.o,yK.of_below (Below.step bg.o aJ)⟩
 have b4:=Lib.hid ak;obtain⟨m,Hm⟩:=zD X.P.length;rw[Hm.o]at b4 an ay ⊢;obtain⟨Y,b5⟩:∃r:Array Value,Hid (#[.int .i64 X.k,.int .i64 X.m,.int .i64 X.u,.int .i64 X.g,.int .i64 X.s,.int .i64 X.l,.int .i64 X.up,.slice q n c]=r):=⟨_,rfl⟩;rw[b5.o]at an;obtain⟨xg,a5⟩:∃xg:Nat->Tx,Hid (∀n,xg n={x with gone:=x.gone++(X.P.drop n).reverse}):=⟨_,fun _=>rfl⟩;have bZ:xg m=x:=by rw[a5.o,<-Hm.o,List.drop_length,List.reverse_nil,xn]
 rw[<-bZ]at an;clear ak aJ c7 bz bV aI bZ;go_wp2;obtain⟨i0,b2,cb,bI,bQ⟩:=xp jz;have ci:=Lib.hid b2;have ca:=Lib.hid cb;have bX:=Lib.hid bI;have cf:=Lib.hid bQ;clear b2 cb bI bQ;go_loopw [8] (fun pv wr=>∃n:Nat,pv=.slice q3 n c3/\Hid (n<=m/\(K<=n\/n=m))/\Hid (FG w0 w F T gt gf d (xg n) Y pv wr)/\Hid (wr.ownsRow w 3 1 pv n (ints (X.P.take n)))) (fun pv _=>lenV pv);case atStart=>exact⟨m,rfl,⟨zL,zu rfl⟩,an,by show _;rw[zv (vM Hm.o)];exact b4.o⟩
 case round=>
  obtain⟨G,rfl,HN,aU,V⟩:=hrel;by_cases cQ:K<G
  .obtain⟨r,rfl⟩:∃r,G=r+1:=⟨G-1,by omega⟩;obtain⟨G,Hn⟩:=zD (r+1);rw[Hn.o]at HN aU V cQ ⊢;have cN:(K:Int)<(G:Int):=(by omega);have ed:(G:Int)-1=(r:Int):=(by have:=Hn.o;omega);have en:IntKind.i64.wrap (r:Int)=(r:Int):=zQ _ (by have:=Hn.o;have:=HN.o;omega);have cy:r<G:=(by have:=Hn.o;omega);have d2:(r:Int)<(G:Int):=(by omega);have dp:(r:Int)<=(G:Int):=(by omega);obtain⟨g3,dy,bq,d3,dx⟩:=V.o.form (by omega);injection bq with e1 e2 e3;subst e1 e3;clear e2;have bG:r<X.P.length:=(by rw[Hm.o];have:=HN.o;omega);obtain⟨p,Hp⟩:=zD (X.P[r]);have aR:wr.cell? ⟨g3,r,none⟩=some (.int .i64 p):=by
    have:=V.o.cells (g:=g3) rfl r (.int .i64 p) (by unfold ints;rw[xy,zI,ze cy,zf bG,<-Hp.o];rfl);have bR:(⟨g3,0,none⟩:Addr).add r=⟨g3,r,none⟩:=by unfold Addr.add;split<;>simp_all
    rwa [bR]at this
   obtain⟨⟨T1,t1,t2,t3,t4,t5⟩,I,ad⟩:=aU.o;have aB:=Lib.hid t1;have ab:Hid ((∀i,T1 i->T i\/w.heap.size<=i)/\(∀i,T i->T1 i)/\¬T1 d/\(∀b,(Value.slice (some ⟨g3,0,none⟩) G c3).ownBlock=some b->w.heap.size<=b/\¬T1 b)/\wr.heap[d]?=some (.cells Y 59)/\yK T w wr):=⟨t2,t3,t4,t5,I,ad⟩;obtain⟨C,aq⟩:∃z:Tx,Hid (xg G=z):=⟨_,rfl⟩;rw[aq.o]at aB;have dQ:C.gone.length<=920:=(by rw[<-aq.o,a5.o];have:=cM.o;show (x.gone++(X.P.drop G).reverse).length<=920;rw[zl,ug,yx,Hm.o];omega);have bH:xg r={C with gone:=C.gone++[p]}:=(by rw[<-aq.o,a5.o,a5.o,<-Hn.o,<-Hp.o,zU,<-ut,xe bG]);have dc:=Lib.hid bH;obtain⟨rv,gn,cn,gd,gp,gv,E,pl,hL⟩:=aB.o.lies;obtain⟨k0,dH,dO,dr,ds,dC,dw,d0⟩:=sZ hL.row;have Q:=Lib.hid hL;have dj:=Lib.hid (hL.below (lw (xW wr wr) 1));have cV:w0.heap.size<=wr.heap.size:=zr ar.o.size ad.size;have cd:Hid (∀w5:World,(wr.drew.alloc (.cells #[p] 3)).grownBy w5 gv.ownBlock->yK (fun r=>gv.ownBlock=some r) wr w5/\w5.heap[gt]?=wr.heap[gt]?):=fun w5 dk=>(by have k1:yK (fun r=>gv.ownBlock=some r) (wr.drew.alloc (.cells #[p] 3)) w5:=yK.grown dk fun r J=>J;have k2:yK (fun r=>gv.ownBlock=some r) wr w5:=(yK.of_below ((lw (xW wr wr) 1).alloc zL _)).step k1;refine⟨k2,k2.block gt (xL Q.o.row) fun L=>?_⟩;obtain⟨aH,M⟩:=mI Q.o.gone gt L;exact tj Q.o.row M (by decide) rfl);have bM:Hid (∀(gg f:Nat) (w4:World),w4.ownsRow w0 3 1 (gg,0,(C.gone.length+1),f) (C.gone.length+1) (ints C.gone++[.int .i64 p])->(wr.drew.alloc (.cells #[p] 3)).grownBy w4 gv.ownBlock->(gv.ownBlock=some gg\/gg=wr.heap.size+1) ->
    FG w0 w F T gt gf d (xg r) Y (g3,0,r,c3) (w4.setCell (gt,197) (gg,0,(C.gone.length+1),f))/\(w4.setCell (gt,197) (gg,0,(C.gone.length+1),f)).ownsRow w 3 1 (g3,0,r,c3) r (ints (X.P.take r))):=fun gg f w4 A B am=>by
    have av:=cd.o w4 B;have a8:yK (fun r=>r=gt\/gv.ownBlock=some r) wr (w4.setCell (gt,197) (gg,0,(C.gone.length+1),f)):=(av.1.mono fun i _ hi=>zu hi).step (yK.setCell (p:=⟨gt,197,none⟩) (zt rfl) _);have bB:gg≠gt:=fun L=>(by subst L;obtain⟨aH,M⟩:=mI A gg rfl;exact tj (av.2.trans Q.o.row) M (by decide) rfl);have bF:(w4.setCell (gt,197) (gg,0,(C.gone.length+1),f)).heap[gt]?=some (.cells (txR (gf,()) C.fo rv (.slice (some ⟨gn,0,none⟩) 32 cn) (.map (some gd)) (.map (some gp)) (gg,0,(C.gone.length+1),f) C.full C.fake) 150):=(by rw[<-hV];exact zX _ _ 197 _ _ _ (av.2.trans Q.o.row));have cP:ints C.gone++[Value.int .i64 p]=ints (C.gone++[p]):=(by simp[ints]);have bA:vS w0 (fun i=>F i\/w.heap.size<=i) gt (gf,()) (xg r) T1 wr (w4.setCell (gt,197) (gg,0,(C.gone.length+1),f)):=(by rw[dc.o];refine Q.o.addGone aB.o p gg f a8 bF ?_ (am.imp id fun h=>by rw[h];omega) (by omega);rw[<-cP];have db:yK (fun r=>r=gt) w4 (w4.setCell (gt,197) (gg,0,(C.gone.length+1),f)):=yK.setCell (F:=fun r=>r=gt) (p:=⟨gt,197,none⟩) rfl _;exact uV A fun b hb=>db.block b (A.lt b hb).2 (fun L=>bB (by have e:gg=b:=(by simpa[Value.ownBlock]using hb);rw[e];exact L)));obtain⟨T2,u1,u2,u3,u4⟩:=bA;obtain⟨v2,v3,v4,v5,vR,vk⟩:=ab.o;have aC:∀b,(Value.slice (some ⟨g3,0,none⟩) r c3).ownBlock=some b->(w.heap.size<=b/\¬T1 b)/\b<wr.heap.size:=fun b hb=>⟨v5 b hb,(V.o.lt b hb).2⟩;refine⟨⟨⟨T2,u1,fun i hi=>?_,fun i hi=>u4 i (v3 i hi),fun L=>?_,fun b hb=>⟨(aC b hb).1.1,fun L=>?_⟩⟩,(u3.block d (xL vR) v4).trans vR,vk.trans u3 v2⟩,?_⟩
    .exact (u2 i hi).elim (v2 i) fun h=>zu (zr vk.size h)
    .exact (u2 d L).elim v4 fun h=>yb (xL vR) (xM h)
    .exact (u2 b L).elim (aC b hb).1.2 fun h=>yb (aC b hb).2 (xM h)
    .have U:=gD V.o (m:=r) (by have:=Hn.o;omega);rw[vf,vX (by have:=Hn.o;omega)]at U;exact uV U fun b hb=>u3.block b (aC b hb).2 (aC b hb).1.2
   have eg:r<=c3:=by
    obtain⟨_,⟨hv,_⟩|⟨g',d5,aH,hv,_,_,L,_⟩⟩:=id V.o
    .cases hv
    .cases hv;omega
   have dn:(r:Int)<=(c3:Int):=(by omega);have kz:gt<wr.heap.size:=xL Q.o.row;have kn:¬gt=wr.heap.size:=nS kz;have dd:g3<wr.heap.size:=(V.o.lt g3 rfl).2;have eo:¬g3=wr.heap.size:=nS dd;clear hL t1 t2 t3 t4 t5 I ad bH;go_wp2
   go_region_law (first
    | (refine tr _ (by rfl) _ _ _ (by rfl) w0.heap.size 3 i0 (.int .i64 0) 1 8 lk ci.o ca.o bX.o cf.o rfl (by decide) gv C.gone.length (ints C.gone) (by rfl) (dj.o.gone.alloc _) ⟨wr.heap.size,0,none⟩ 1 1 [.int .i64 p] (by rfl) (by rfl) (xU (cs:=#[.int .i64 p]) (t:=3) (fr:=(0,0)) (zT wr.drew _)) (by simp[Value.oneCell']) (by omega) (by unfold maxLen;omega) (by omega) (by simp;omega) (wr.heap.size+1) (by simp) ?_;intro gg f w4 a4 B am bf;have av:=cd.o w4 B;have cZ:w4.frozen? (gt,197)=false:=zF (av.2.trans Q.o.row);have c9:w4.cell? (gt,197)=some gv:=(sZ (av.2.trans Q.o.row)).2.2.2.2.2.1;have HD:=Lib.hid (bM.o gg f w4 a4 B am);clear a4 B am))
   all_goals
    go_wp2;go_roundw;case rel=>exact⟨r,rfl,⟨by have:=HN.o;omega,zt (by omega)⟩,HD.o.1,HD.o.2⟩
    case measure=>simp[lenV];omega
  .have b1:Hid (G=min m K):=(by show G=_;have:=HN.o;omega);have cF:G<=K:=(by omega);have cN:¬((K:Int)<(G:Int)):=(by omega);obtain⟨C,aq⟩:∃z:Tx,Hid (xg G=z):=⟨_,rfl⟩;rw[aq.o]at aU;generalize wr=wg at *
   go_wp2;go_loopw [8] (fun pv wq=>∃j:Nat,G<=j/\j<=K/\Hid (FG w0 w F T gt gf d C Y pv wq)/\Hid (wq.ownsRow w 3 1 pv j (ints (X.P.take G++List.replicate (j-G) 0)))) (fun pv _=>K-lenV pv);case atStart=>exact⟨G,zL,cF,aU,by rw[uF,List.replicate_zero,xn];exact V⟩
   case round=>
    obtain⟨j,dY,dU,bj,R⟩:=hrel;obtain⟨qj,cj,cK,_⟩:=tR R.o;subst cK;by_cases eq:j<K
    .have bJ:(j:Int)<(K:Int):=(by omega);have b9:(ints (X.P.take G++List.replicate (j-G) 0))++[Value.int .i64 0]=ints (X.P.take G++List.replicate (j+1-G) 0):=(by rw[show j+1-G=(j-G)+1 by omega,qM,<-zU];simp[ints]);have cS:=Lib.hid b9;have bi:Below wr wr (wr.alloc (.cells #[()] 3)):=(xW wr wr).alloc zL _;have ck:=Lib.hid (th R.o bi);have cU:Hid (w.heap.size<=wr.heap.size):=bj.o.keeps.size;have aS:=Lib.hid bi;clear b9 bi;go_wp2_with (at_builtin;refine wpList_append_lies _ rfl _ _ 49 rfl w 3 i0 (.int .i64 0) 1 8 lk ci.o ca.o bX.o cf.o rfl (by decide) _ _ _ rfl ck.o ⟨wr.heap.size,0,none⟩ 1 1 [.int .i64 0] rfl rfl (xU (cs:=#[.int .i64 0]) (t:=3) (fr:=(0,0)) (zT wr _)) (by simp[Value.oneCell']) (by omega) (by unfold maxLen;omega) (by omega) (by have:=cU.o;simp;omega) (wr.heap.size+1) (by simp) ?_;intro g5 c5 w5 A B am bf)
     have dh:Hid (w5.ownsRow w 3 1 (g5,0,(j+1),c5) (j+1) (ints (X.P.take G++List.replicate (j+1-G) 0))):=(by show _;rw[<-cS.o];exact A);have cA:Hid (FG w0 w F T gt gf d C Y (g5,0,(j+1),c5) w5):=by
      obtain⟨⟨T1,t1,t2,t3,t4,t5⟩,I,ad⟩:=bj.o;have a8:yK (fun r=>(Value.slice qj j cj).ownBlock=some r) (wr.alloc (.cells #[()] 3)) w5:=yK.grown B fun r J=>J;have cD:∀b,(Value.slice qj j cj).ownBlock=some b->(F b\/w.heap.size<=b)/\¬T1 b:=fun b hb=>⟨zu (R.o.lt b hb).1,(t5 b hb).2⟩;refine⟨⟨T1,(t1.below aS.o).own ck.o cD a8,t2,t3,t4,fun b hb=>⟨(A.lt b hb).1,fun L=>?_⟩⟩,(a8.block d (xL (we aS.o I)) fun L=>?_).trans (we aS.o I),(ad.step (yK.of_below aS.o)).trans a8 fun r J=>zu (R.o.lt r J).1⟩
      .injection hb with hb;have aL:g5=b:=hb;rcases am with U|U
       .exact (t5 b (aL▸U)).2 L
       .have:=t1.fin b L;omega
      .obtain⟨aH,M⟩:=mI R.o d L;exact tj I M (by decide) rfl
     clear A B am bf;go_wp2;go_roundw;case rel=>exact⟨j+1,by omega,by omega,cA,dh⟩
     case measure=>simp[lenV];omega
    .obtain rfl:j=K:=(by omega);have bJ:¬((j:Int)<(j:Int)):=(by omega);obtain⟨⟨T1,t1,t2,t3,t4,t5⟩,I,ad⟩:=bj.o;have aB:=Lib.hid t1;have ab:Hid ((∀i,T1 i->T i\/w.heap.size<=i)/\(∀i,T i->T1 i)/\¬T1 d/\(∀b,(Value.slice qj j cj).ownBlock=some b->w.heap.size<=b/\¬T1 b)/\yK T w wr):=⟨t2,t3,t4,t5,ad⟩;rw[<-b5.o]at I;have s4:wr.cell? (d,4)=some (.int .i64 X.s):=(uI I).2.2.2.2.1;have s7:wr.cell? (d,7)=some (.slice q n c):=(uI I).2.2.2.2.2.2.2;have z4:wr.frozen? (d,4)=false:=zF I;have z7:wr.frozen? (d,7)=false:=zF I;have bn:=Lib.hid I;have cG:Hid (X.P.take G++List.replicate (j-G) 0=X.P.take j++List.replicate (j-X.P.length) 0):=by
      show _=_;rw[Hm.o,b1.o];by_cases a9:m<=j
      .rw[vX a9,zv (vM Hm.o),zv (by rw[Hm.o];exact a9)]
      .rw[Nat.min_eq_right (by omega),uF,Nat.sub_eq_zero_of_le (by omega)]
     rw[cG.o]at R;have ba:Hid (C={x with gone:=x.gone++(X.P.drop j).reverse}):=by
      show _=_;rw[<-aq.o,a5.o,b1.o];by_cases a9:m<=j
      .rw[vX a9,yP (vM Hm.o),yP (by rw[Hm.o];exact a9)]
      .rw[Nat.min_eq_right (by omega)]
     obtain⟨O,aG⟩:∃y:Uw,Hid (⟨x.ow,x.put,X.P.take j++List.replicate (j-X.P.length) 0⟩=y)   :=⟨_,Lib.hid rfl⟩;have aw:Hid (UwIn O/\O.P.length=j/\O.ow.fk<900000/\O.put.length<800):=by
      show _/\_;rw[<-aG.o];refine⟨⟨fun p hp=>?_,bd.o.1⟩,?_,bd.o.2,az⟩
      .rcases yv.1 hp with hp|hp
       .exact c8.o p (xd hp)
       .rw[(uR.1 hp).2];have:=bd.o.1;show (0:Int)<=0/\(0:Int)<=x.fake;omega
      .show (X.P.take j++List.replicate (j-X.P.length) 0).length=j;rw[zl,zi,zR];omega
     have bU:O.P=X.P.take j++List.replicate (j-X.P.length) 0:=(by rw[<-aG.o]);rw[<-bU]at R;clear t1 t2 t3 t4 t5 I ad bU;go_wp2;have bo:yK (fun i=>i=d) wr ((wr.setCell (d,7) (qj,j,cj)).setCell (d,4) (.int .i64 (nD:Int))):=(yK.setCell (F:=fun i=>i=d) (p:=⟨d,7,none⟩) rfl _).step (yK.setCell (F:=fun i=>i=d) (p:=⟨d,4,none⟩) rfl _);have c1:((wr.setCell (d,7) (qj,j,cj)).setCell (d,4) (.int .i64 (nD:Int))).heap[d]?=some (.cells #[X.k,X.m,X.u,X.g,nD,X.l,X.up,(qj,j,cj)] 59):=
      zX _ _ 4 _ _ _ (zX _ _ 7 _ _ _ bn.o)
     have ce:Hid (∃q' c',FG w0 w F T gt gf d {C.wow O.ow with put:=O.put} #[X.k,X.m,X.u,X.g,nD,X.l,X.up,.slice q' j c'] (.slice q' j c') ((wr.setCell (d,7) (qj,j,cj)).setCell (d,4) (.int .i64 (nD:Int)))/\vQ ((wr.setCell (d,7) (qj,j,cj)).setCell (d,4) (.int .i64 (nD:Int))) (.slice q' j c') O.P):=(by have hx:({C.wow O.ow with put:=O.put}:Tx)=C:=(by rw[<-aG.o,ba.o];rfl);rw[hx];refine⟨qj,cj,⟨⟨T1,aB.o.local (zu ap.o) ab.o.2.2.1 bn.o (by decide) bo,ab.o.1,ab.o.2.1,ab.o.2.2.1,ab.o.2.2.2.1⟩,c1,ab.o.2.2.2.2.trans bo fun i hi=>zu (by rw[hi];exact ap.o)⟩,?_⟩;have U:vQ wr (qj,j,cj) O.P:=(by have:=xT.of_owns R.o;unfold vQ;rw[aw.o.2.1];exact this);exact Zg U fun b hb hl=>bo.block b hl fun L=>by obtain⟨aH,M⟩:=mI R.o b hb;exact tj bn.o (by rw[<-L];exact M) (by decide) rfl);generalize (wr.setCell (d,7) (qj,j,cj)).setCell (d,4) (.int .i64 (nD:Int))=w6 at *
     go_loopw [57] (fun iv wq=>∃k:Nat,k<=j/\iv=.int .i64 k/\Hid (∃q' c',FG w0 w F T gt gf d {C.wow (sW s.k D O k).ow with put:=(sW s.k D O k).put} #[X.k,X.m,X.u,X.g,nD,X.l,X.up,.slice q' j c'] (.slice q' j c') wq/\vQ wq (.slice q' j c') (sW s.k D O k).P)) (fun iv _=>j-(intOf iv).toNat)
     case atStart=>exact⟨0,ye _,rfl,ce⟩
     case round=>
      obtain⟨k,dW,rfl,bC⟩:=hrel;obtain⟨aP,a3⟩:=Xi D HF.o.k1 aw.o.1 k;obtain⟨aN,be⟩:=Wd s.k O D k;obtain⟨N,bp⟩:=zD (sW s.k D O k);rw[bp.o]at aP a3 aN be bC;have b7:N.P.length=j:=aN.trans aw.o.2.1;obtain⟨q',c',⟨⟨T',aA,t1,t2,t3,t4⟩,aK,S⟩,aO⟩:=bC.o;by_cases dT:k<j
      .have aT:k<N.P.length:=(by omega);have bL:N.P.getD k 0=N.P[k]:=(by rw[zh,zf aT];rfl);obtain⟨p',o',A⟩:∃p' o',ownU N.ow s.k N.P[k]=(p',o'):=⟨_,_,rfl⟩;have dV:64*k<nD:=(by have:=HK.o;rw[ag.o]at this;omega);have dD:nD<=vc:=HV.o.2 _ _ _ rfl;obtain⟨_,⟨h0,_⟩|⟨gv,ov,cv,cE,bc⟩⟩:=id HV.o.1
       .have:=ag.o;omega
       injection cE with e1 e2 e3;subst e1 e3;clear e2;have b0:gv<w.heap.size:=zG (bc 0 _ (sJ D 0 (by have:=ag.o;omega)));obtain⟨Z,HZ⟩:=zA (List.replicate 64 (0:Int));have c4:∀W:World,(Instr.makeSlice 23 (.int .i64 64) (.int .i64 64)).run prog W=.ok (.slice (some ⟨W.heap.size,0,none⟩) 64 64) (W.alloc (.cells (u8s Z).toArray 5)):=fun W=>(by rw[HZ.o];exact jl 64 64 rfl (by omega) W);have bW:∀(r:Nat) (u:Value),(u8s (D.drop (64*k)))[r]?=some u->(wr.alloc (.cells (u8s Z).toArray 5)).cell? (gv,ov+64*k+r)=some u:=fun r u J=>(by rw[mr,yo]at J;have U:=bc (64*k+r) u J;rw[<-yA]at U;rw[wk _ _ _ (zm b0 S.size),S.cell b0 (cY.o gv rfl)];exact U);have aR:=LC (P:=prog) (wr.alloc (.cells (u8s Z).toArray 5)) 23 23 3 5 u8sT jd wr Z (D.drop (64*k)) 5 (zT wr _) (by rw[HZ.o];simp) gv (ov+64*k) (nD-64*k) (vc-64*k) (by rw[yx,ag.o]) bW;obtain⟨W,HW⟩:=zD ((wr.alloc (.cells (u8s Z).toArray 5)).setRow wr (u8s (over Z 0 ((D.drop (64*k)).take 64))).toArray);rw[HW.o]at aR;obtain⟨nc,cC⟩:=zD (goInt (u8s ((D.drop (64*k)).take 64)).length);rw[cC.o]at aR;have au:Below wr wr W:=(by rw[<-HW.o];exact Below.setRow (zB.alloc zL _) zL _);have bN:W.heap[wr.heap.size]?=some (.cells (u8s (blkB D k)).toArray 5 (0,0)):=(by rw[<-HW.o,show blkB D k=over Z 0 ((D.drop (64*k)).take 64) by rw[HZ.o];rfl];exact yi _ _ _ _ _ _ (zH));have af:(blkB D k).length=64:=(by unfold blkB over;simp;omega);have aX:su W w0 (.slice (some ⟨wr.heap.size,0,none⟩) 64 64) (blkB D k):=⟨_,64,_,rfl,af,zL,zr ar.o.size S.size,bN,by rw[zv (by rw[xV,vO,af];exact zL)]⟩;have aW:Below w0 w0 W:=(ar.o.trans (S.to_below H.o.new ar.o.size)).trans (au.mono (zr ar.o.size S.size));have bw:=Lib.hid (LY HF.o aW (aA.below au) d {X with P:=N.P,s:=(nD:Int)} q' j c' (we au aK) (xT.below aO au) ⟨zu ap.o,t3,zr ar.o.size ap.o⟩ k aT (by show N.P.length<=8;omega) (by show N.ow.fk<1000000;have:=aw.o.2.2.1;omega) (by
        have U:=aP.1 _ (zz aT);have:=aw.o.2.2.1;show 0<=N.P[k]/\N.P[k]<=1000000;omega) p' o' A _ (blkB D k) aX (fun b hb L=>by
        injection hb with hb;have aL:wr.heap.size=b:=hb;have:=aA.fin b L;omega) (by show N.put.length<900;have:=aw.o.2.2.2;omega))
       have ah:Hid (yK T w wr/\(∀i,T' i->T i\/w.heap.size<=i)/\(∀i,T i->T' i)/\¬T' d/\d<wr.heap.size):=⟨S,t1,t2,t3,xL aK⟩;have bs:=Lib.hid au;have cH:Hid (sW s.k D O (k+1)=⟨o',putZ N.put p' (blkB D k),N.P.set k p'⟩):=(by show wrU s.k (sW s.k D O k) k (blkB D k)=_;rw[bp.o];unfold wrU;rw[bL,A]);have bb:=Lib.hid b7;have dR:=zW (64*(k:Int));have d9:(64*(k:Int))<=(nD:Int):=(by omega);have em:64*k<=vc:=(by omega);have d7:¬vc=64*k:=(by omega);have dF:(k:Int)<(j:Int):=(by omega);clear aA t1 t2 t3 t4 aK aO S A b7 aT bL bc bW au bN af aX aW aP a3 aN be;go_wp2_with fail
       refine bw.o.mono ?_;rintro e w7 ⟨rfl,T2,g2,c2,b6,u1,u2,u3,u4,⟨u5,u6,u7⟩,cL,cc,u9⟩;have cJ:Hid (∃q' c',FG w0 w F T gt gf d {C.wow (sW s.k D O (k+1)).ow with put:=(sW s.k D O (k+1)).put} #[X.k,X.m,X.u,X.g,nD,X.l,X.up,.slice q' j c'] (.slice q' j c') w7/\vQ w7 (.slice q' j c') (sW s.k D O (k+1)).P):=by
        rw[cH.o];obtain⟨v1,v2,v3,v4,v5⟩:=ah.o;have bO:w.heap.size<=W.heap.size:=zr v1.size bs.o.size;refine⟨some ⟨g2,0,none⟩,c2,⟨⟨T2,b6,fun r J=>?_,fun r J=>u2 r (v3 r J),fun L=>?_,fun b hb=>?_⟩,?_,?_⟩,?_⟩
        .rcases u1 r J with U|U
         .exact v2 r U
         .exact zu (zr bO U)
        .rcases u1 d L with U|U
         .exact v4 U
         .exact yb v5 (xM (zr bs.o.size U))
        .injection hb with hb;have aL:g2=b:=hb;rw[<-aL];exact⟨zr bO u5,u6⟩
        .have:=u4;rw[show N.P.length=j from bb.o]at this;exact this
        .refine (v1.step (yK.of_below bs.o)).trans u3 fun r J=>?_;rcases J with J|J
         .exact v2 r J
         .exact zu (by rw[J];exact ap.o)
        .have b3:(N.P.set k p').length=j:=(by rw[xG,bb.o]);refine⟨by simp[ints,bb.o],zu ⟨g2,0,c2,by rw[b3],fun r u J=>?_⟩⟩;rw[yL,zC cc,<-zP];have di:r<N.P.length:=(by have:=(zy.1 J).1;simpa[ints]using this);have h3:(cL.toList.take N.P.length)[r]?=some u:=by rw[u9];exact J
         rwa [zI,ze di]at h3
       clear b6 u1 u2 u3 u4 u5 u6 u7 cc u9 bw HW aR c4;go_wp2;go_roundw;case rel=>exact⟨k+1,by omega,by go_num,cJ⟩
       case measure=>simp[intOf];omega
      .obtain rfl:k=j:=(by omega);have a1:jb (fun r=>F r\/T' r) {X with P:=N.P,s:=(nD:Int)} wr q' k c':=by
        refine fY aO fun b hb bf hG=>?_;rcases hG with hG|hG
        .exact yb (cz.o b hG) (xM (t4 b hb).1)
        .exact (t4 b hb).2 hG
       have bT:TxAt wr w0 F gt (gf,()) {C.wow N.ow with put:=N.put} T':=aA.outer fun r _ J=>zt J;have cO:=Lib.hid (lI bT i hi {X with P:=N.P,s:=(nD:Int)} q' k c' a1 (by show C.dirty.length<900;rw[ba.o];exact a0));have ah:Hid ((∀r,T' r->T r\/w.heap.size<=r)/\yK T w wr/\∀r,T r->T' r):=⟨t1,S,t2⟩;obtain⟨z0,z1,z2,z3,z4,z5,z6,z7⟩:=uI aK;clear aA t1 t2 t3 t4 aO S a1 bT aP a3 aN be;go_wp2_with fail
       refine cO.o.mono ?_;rintro e w7 ⟨rfl,T2,s1,s2,s3,s4⟩;have cT:=Lib.hid s1;have bm:Hid ((∀r,T2 r->T r\/w.heap.size<=r)/\yK T w w7/\∀r,T r->T2 r):=⟨fun r J=>(s2 r J).elim (ah.o.1 r) fun h=>zu (zr ah.o.2.1.size h),ah.o.2.1.trans s3 ah.o.1,fun r J=>s4 r (ah.o.2.2 r J)⟩;clear s1 s2 s3 s4;go_wp2;refine⟨rfl,.tuple #[],(by simp[results,results73,go_sem]),?_⟩;refine⟨rfl,T2,?_,bm.o.1,bm.o.2.1,bm.o.2.2⟩;have h9:=cT.o;rw[ba.o,<-bp.o,<-aG.o,<-ag.o]at h9;unfold Tx.fillX;rw[HK.o];exact h9
