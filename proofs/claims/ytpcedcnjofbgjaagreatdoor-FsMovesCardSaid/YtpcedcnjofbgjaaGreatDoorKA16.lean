import Derived.Test.YtpcedcnjofbgjaaGreatDoorKA13
import Derived.Test.YtpcedcnjofbgjaaGreatDoorKA14
import Derived.Test.YtpcedcnjofbgjaaGreatDoorKA15
set_option maxHeartbeats 0
set_option linter.all false
set_option maxRecDepth 100000
namespace Go.Proofs.YtpcedcnjofbgjaaGreatDoor
open Go.Proofs.Tryz Go.RowKit
variable {B k:Nat} {D:List Int} {F:Nat->Prop} {N:Nat->List Int} {l:List (Int×List Int)} {pl:List (Int×Value)} {r:Rdr} {v:Value} {w w':World} {x:Int×Value} {y:Int×List Int}
theorem JN (W):(Instr.makeSlice 204 (.int .i64 32) (.int .i64 32)).run prog W=.ok (.slice (some ⟨W.heap.size,0,none⟩) 32 32) (W.alloc (.cells (List.replicate 32 (Value.slice none 0 0)).toArray 108)):=by kernel_rfl
theorem V2 (h:RdAt w r N k) {p:Int} (b:0<=p) (c:p<k):∀x∈uY N p,0<=x/\x<=255:=λx a=>by
 unfold uY at a;split at a
 .rw[uX]at a;omega
 .exact h.byte _ (by omega) x a
theorem VY (h:RdAt w r N k) {P:List Int} (c:Zm P k) (s):∀x∈sF N P s,0<=x/\x<=255:=λx a=>by unfold sF at a;obtain⟨p,b,a⟩:=Np.1 (xI a);exact V2 h (c p b).1 (c p b).2 x a
def iX (X:List En) (i:Nat):Int:=(ML X).getD i 0+if i=0 then 1 else 0
def entL (N:Nat->List Int) (L:List Pn) (i:Nat):List En:=if (L.getD i zN).k=2 then outD (sF N (L.getD i zN).P (L.getD i zN).s) else []
def allL (N:Nat->List Int) (L:List Pn):Nat->List En
 | 0=>[]
 | j+1=>allL N L j++entL N L j
structure Zg (N:Nat->List Int) (f:Fo) (t k:Nat) (L:List Pn):Prop where
 tree:Zl N (f.nd t) k
 eq:RJ N (f.nd t) 32=L
 own:Yw (f.nd t) L (f.hs t) k
 size:∀i,i<32->0<=(L.getD i zN).s/\(L.getD i zN).s<=512
 list:∀i,i<32->(L.getD i zN).k=2->oB (sF N (L.getD i zN).P (L.getD i zN).s)=true
 ways:oT L (entL N L)
 up:(L.getD 0 zN).up=1
 names:∀i,i<32->(L.getD i zN).l=iX (allL N L 32) i/\((L.getD i zN).k=0->iX (allL N L 32) i<=0)
theorem TL {N L} (h:oT L (entL N L)):∀j,j<=32->(allL N L j).length<=32*j
 | 0,_=>zL
 | j+1,a=>by have c:=TL h j (by omega);have b:=h.few j (by omega);unfold allL;rw[zl];omega
theorem V3 (w) (q) (n c) (g:n<=c) (ty):(Builtin.append_ #[108,108] ty #[.slice q n c,.slice none 0 0]).run prog w=.ok (.slice q n c) w:=by obtain⟨f,a,d,e,b⟩:=yX OY;cases q<;>simp[Builtin.append_,wP D6,sizeOf,typeInfo,a,Builtin.lenOf,g,Builtin.firstCells,loadCells,loadCellsFrom,storeCells,go_sem]
theorem Ct {i j:Nat} (h:i≠j) {α:Type} (a b:α):(if i<j+1 then a else b)=if i<j then a else b:=by
 by_cases c:i<j
 .rw[ze c,ze (by omega)]
 .rw[zb c,zb (by omega)]
structure OneR (N:Nat->List Int) (L:List Pn) (B be j:Nat) (a:Value) (wr:World):Prop where
 row:∃Zs:Array Value,wr.heap[be]?=some (.cells Zs 108)/\Zs.size=32/\∀i,i<32->∃x,Zs[i]?=some x/\qM wr x (if i<j then entL N L i else [])/\∀b,x.ownBlock=some b->b<wr.heap.size/\b≠be/\a.ownBlock≠some b
 all:wr.ownsRow B 112 2 a (allL N L j).length (ents (allL N L j))
 ne:a.ownBlock≠some be
theorem OneR.below {N L B be j a} (h:OneR N L B be j a w) (o:Below w w w'):OneR N L B be j a w':=by obtain⟨n,k,f,m⟩:=h.row;refine⟨⟨n,xV o k,f,λi l=>?_⟩,tt h.all o,h.ne⟩;obtain⟨x,e,g,d⟩:=m i l;exact⟨x,e,uq.below g o,λb c=>⟨zr (d b c).1 o.size,(d b c).2⟩⟩
theorem OneR.skip {N L B be j a} (h:OneR N L B be j a w) (p:(L.getD j zN).k≠2):OneR N L B be (j+1) a w:=by
 have d:entL N L j=[]:=zb p;obtain⟨o,g,f,m⟩:=h.row;refine⟨⟨o,g,f,λi l=>?_⟩,?_,h.ne⟩
 .obtain⟨x,e,c,n⟩:=m i l;refine⟨x,e,?_,n⟩;by_cases b:i=j
  .subst b;rw[zb (Nat.lt_irrefl _)]at c;rw[ze (Nat.lt_succ_self _),d];exact c
  .rw[Ct b];exact c
 .have:allL N L (j+1)=allL N L j:=by show allL N L j++entL N L j=_;rw[d,yY]
  rw[this];exact h.all
theorem OneR.step {N L B be j a} {w6 w7:World} (h:OneR N L B be j a w6) (O:j<32) {x v7:Value} (K:qM w6 x (entL N L j)) (H:∀b,x.ownBlock=some b->b<w6.heap.size/\b≠be/\a.ownBlock≠some b)
 (M:w7.ownsRow B 112 2 v7 (allL N L j++entL N L j).length (ents (allL N L j++entL N L j))) (I:w6.grownBy w7 a.ownBlock) (J:v7.ownBlock=a.ownBlock\/v7.ownBlock=some w6.heap.size) (hB:B<=be):
 OneR N L B be (j+1) v7 (w7.setCell ⟨be,j,none⟩ x):=by
 obtain⟨G,u,t,C⟩:=h.row;have n:=xB u;have z:=(I.block be n λe=>h.ne e.symm).trans u;have g:∀b,b≠be->(w7.setCell (be,j) x).heap[b]?=w7.heap[b]? :=λb d=>yj w7 _ _ b d;have o:(w7.setCell (be,j) x).heap.size=w7.heap.size:=by simp[World.setCell]
 have f:∀b,b<w6.heap.size->a.ownBlock≠some b->v7.ownBlock≠some b:=λb d D r=>by
  rcases J with e|e
  .exact D (e.symm.trans r)
  .rw[e]at r;injection r with r;omega
 have c:∀{y} {l},qM w6 y l->(∀b,y.ownBlock=some b->b<w6.heap.size/\b≠be/\a.ownBlock≠some b)->qM (w7.setCell (be,j) x) y l:=λA d=>Pd A λb s _=>by obtain⟨m,p,q⟩:=d b s;exact (g b p).trans (I.block b m λe=>q e.symm)
 refine⟨⟨G.setIfInBounds j x,zT _ _ j _ _ _ z,by simp[t],λi w=>?_⟩,?_,f be n h.ne⟩
 .by_cases k:i=j
  .subst k;refine⟨x,by simp[t,w],?_,λb d=>?_⟩
   .rw[ze (Nat.lt_succ_self _)];exact c K H
   .obtain⟨m,p,q⟩:=H b d;exact⟨by rw[o];exact zr m I.size,p,f b m q⟩
  .obtain⟨y,E,F,v⟩:=C i w;refine⟨y,by rw[Array.getElem?_setIfInBounds_ne (yA k)];exact E,?_,λb d=>?_⟩
   .rw[Ct k];exact c F v
   .obtain⟨m,p,q⟩:=v b d;exact⟨by rw[o];exact zr m I.size,p,f b m q⟩
 .exact vE M λb d=>g b λe=>f be n h.ne (by rw[d,e])
section
variable {P : Program}
theorem To {ops:Array Oper} {Q:Act->Prop} {rest:List Oper} {o:Oper} {a:Act} {C:World->Prop} (x) (nm) (i:o.op=.call {callee:=.invoke x nm,args:=#[],argTypes:=#[]}) (j:Region.wanted o (yielded ops a.tmps)=true) (f) (args)
 (g:∀w,(execOp a.eval o).run P w=.ok (.enter f args) w) (v)
 (k:∀w' w'',C w'->Below w' w' w''->C w'') (l:∀w',C w'->Calls P f args w' λe w''=>e=.returned v/\Below w' w' w'') (h:wpQuiet P ops C Q rest (a.put o.dst v)):wpQuiet P ops C Q (o::rest) a:=
 ur j λ_ c=>⟨v,λw' b=>by have _:=i;unfold Oper.quietAt;rw[g];exact⟨rfl,(l w' b).mono λ_ _ ⟨g,d⟩=>⟨g,k _ _ b d⟩⟩,c _ h⟩
end
theorem Jy (h:RdAt w r N k) (hk:k<=256) (ak:64<=k) (f) (t bm) (L) (ab:Zg N f t k L) (A) (HA:Hid (A=encT f t)):
 Calls prog 96 #[.iface r.T r.u,.agg A,.map (some bm)] w
  (κ w (.tuple #[])):=by
 have q4:=h.n2;have q5:=h.m2;have q6:=h.c2;have HR:=za h;have l:=za ab;have cn:Hid (A.size=48):=by rw[HA.o];exact sf f t
 have cb:Hid (∀W,Below w w W->Calls prog 48 #[.iface r.T r.u,.agg A] W (λe w'=>∃v,e=.returned (.tuple #[v,()])/\Tf W v L w')):=λW K=>by have:=iB (h.below K) f t ab.tree;rw[ab.eq]at this;rw[HA.o];exact this
 clear h ab;go_enter func96,ntmps96;go_wp2_with (refine yI rfl 83 (.tmp 4) rfl w rfl 83 A (0,0) _ (zH) underlying83 rfl (by rw[cn.o];exact Od) ?_)
 have cd:Hid (Below w w (w.alloc (.cells A 83))):=zB.alloc zL _;have ce:Hid ((w.alloc (.cells A 83)).heap[w.heap.size]?=some (.cells A 83)):=zH;generalize w.alloc (.cells A 83)=w1 at *
 refine (cb.o w1 cd.o).mono ?_;rintro e w2 ⟨v,rfl,E,hO,hE,bl⟩;have HO:=za hO;have HE:=za hE;have bN:=za (zi cd.o bl);have cE:=za (xV bl ce.o);have af:=za l.o.ways.len;have aE:Hid (E.length=32):=by show _=_;rw[HE.o.1];exact af.o
 obtain⟨p,cp,bG,_⟩:=rU hO;rw[af.o]at bG;subst bG;have bW:Hid (uq w2 (.slice p 32 cp) 8 E.length (ue E)):=by have:=uq.of_owns hO;rw[<-HE.o.1]at this;exact this
 have B:Hid (∀W,Below w2 w2 W->Calls prog 134 #[k,.agg A,.slice p 32 cp,.map (some bm)] W (κ W (.bool true))):=λW K=>by rw[HA.o];exact YU W f t k bm hk _ E L _ (uq.below bW.o K) (HE.o.keep (yK.of_below K)) (by rw[af.o];omega) l.o.own
 clear hO hE bl ce cb;go_wp2_with fail
 refine vg (by kernel_rfl) (by kernel_rfl) ?_
 repeat (first
  | go_big_quiet_skip
  | (refine To (.tmp 26) "Size" rfl rfl r.fs #[r.rs] (λW => by simp [execOp, resolve, invoke, callMethod, go_sem, q4, q5, q6]) (.int .i64 (k : Int)) (λ_ _ => vY) (λw' hw => HR.o.size w' (zi bN.o (us hw))) ?_; simp only [Act.put, zP, yf, yb])
  | (refine mp rfl 83 (.tmp 4) rfl w rfl 83 A (0,0) _ (λ_ hw=>qy hw cE.o) underlying83 rfl (by rw[cn.o];exact Od) ?_;simp only[Act.put,zP,yf,yb])
  | (refine sG 134 #[.tmp 27,.tmp 28,.tmp 29,.tmp 30] #[3,83,88,89] rfl rfl (λ_ _=>by kernel_rfl) #[k,.agg A,.slice p 32 cp,.map (some bm)] (by kernel_rfl) (.bool true) (λ_ _=>vY) (λw' hw=>B.o w' (us hw)) ?_;simp only[Act.put,zP,yf,yb])
  | (go_big_quiet_want;go_big_quiet_op;go_big_quiet_on))
 refine vn ?_;intro Q bR;have aG:=us bR;have bU:=za (zi bN.o aG);have bB:=za (uq.below bW.o aG);have aH:=za (HE.o.keep (yK.of_below aG));clear bR aG;have c8:=JN;obtain⟨ZE,bg⟩:=zD ((List.replicate 32 (Value.slice none 0 0)).toArray);rw[bg.o]at c8;have bF:Hid (ZE.size=32):=by show _=_;rw[<-bg.o];rfl
 obtain⟨p2,dw,bT,HP⟩:=rR bB.o;rw[aE.o]at bT HP;injection bT with e1 _ e2;subst e1 e2;obtain⟨g,o,rfl,s,hc⟩:=HP.o (by omega);have HC:=za hc;clear hc HP;obtain⟨X,HX⟩:=zD (allL N L 32);have bD:Hid (X.length<=1024):=by show _<=_;rw[<-HX.o];exact TL l.o.ways 32 zL
 have bL:=za l.o.names;rw[HX.o]at bL;go_wp2;have ci:Hid (Below Q Q (Q.alloc (.cells ZE 108))):=zB.alloc zL _;have bj:Hid ((Q.alloc (.cells ZE 108)).heap[Q.heap.size]?=some (.cells ZE 108)):=zH;obtain⟨C,b9⟩:=zD Q.heap.size;rw[b9.o]at bj |-;generalize Q.alloc (.cells ZE 108)=w4 at *
 have bP:Hid (OneR N L Q C 0 (.slice none 0 0) w4):=by refine⟨⟨ZE,bj.o,bF.o,λi hi=>⟨.slice none 0 0,?_,⟨rfl,zu ⟨rfl,none,0,rfl⟩⟩,λb K=>by cases K⟩⟩,yL _ _ _ _,λK=>by cases K⟩;rw[<-bg.o,xw,vx,ze hi]
 clear bj;go_loopw [9,38] (λa i wr=>∃j:Nat,j<=32/\i=.int .i64 j/\Hid (Below Q Q wr)/\Hid (OneR N L Q C j a wr)) (λ_ i _=>32-(intOf i).toNat)
 .exact⟨0,by omega,rfl,ci,bP⟩
 .clear ci bP;obtain⟨j,hj,rfl,G,HO⟩:=hrel;obtain⟨qa,ca,cR,_⟩:=rU HO.o.all;subst cR;have bM:Hid ((allL N L j).length<=ca):=by
   rcases HO.o.all.2 with⟨h1,_⟩|⟨_,_,_,h1,_,_,h2,_⟩
   .injection h1 with _ h1 h2;show _<=_;omega
   .injection h1 with _ _ h1;show _<=_;omega
  have cy:(allL N L j).length<=1024:=by have:=TL l.o.ways j hj;omega
  obtain⟨na,bi⟩:=zD ((allL N L j).length);rw[bi.o]at HO bM cy |-;by_cases d:j<32
  .have aq:j<E.length:=(by rw[aE.o];exact d);have U:j<L.length:=(by rw[af.o];exact d);obtain⟨J,e1,e2,e3,e4,e5,R,e7⟩:=sB HC.o j aq;have m:=za ((aH.o.2 j aq U).keep (yK.of_below G.o));have bC:=za (l.o.own.few _ (Nj U));have bO:=za (l.o.own.pts _ (Nj U));have aw:Hid (L[j]=L.getD j zN):=(by show _=_;rw[zt,zk U];rfl);generalize L[j]=Y at m bC bO aw;generalize E[j]=y at J e1 e2 e3 e4 e5 R e7 m;obtain⟨yk,ym,yu,yg,ys,yl,S,yq,yn,yc⟩:=y;have J:=(G.o.cell (p:=⟨g,o+j*8,none⟩) s).trans J;have e1:=(G.o.cell (p:=⟨g,o+j*8+1,none⟩) s).trans e1;have e2:=(G.o.cell (p:=⟨g,o+j*8+2,none⟩) s).trans e2;have e3:=(G.o.cell (p:=⟨g,o+j*8+3,none⟩) s).trans e3;have e4:=(G.o.cell (p:=⟨g,o+j*8+4,none⟩) s).trans e4;have e5:=(G.o.cell (p:=⟨g,o+j*8+5,none⟩) s).trans e5;have R:=(G.o.cell (p:=⟨g,o+j*8+6,none⟩) s).trans R;have e7:=(G.o.cell (p:=⟨g,o+j*8+7,none⟩) s).trans e7;dsimp only at J e1 e2 e3 e4 e5 R e7;have a4:(j:Int)<32:=(by omega);have cF:=zr s G.o.size;have dy:¬g=wr.heap.size:=(by omega);have F:Hid (Below wr wr (wr.alloc (.cells #[yk,ym,yu,yg,ys,yl,S,(yq,yn,yc)] 102))):=zB.alloc zL _;obtain⟨f0,f1,f2,f3,f4,f5,f6,aW⟩:=m.o;dsimp only at f0 f1 f2 f3 f4 f5 f6;have bp:Hid ((L.getD j zN).k=yk):=(by show _=_;rw[<-aw.o,f0]);by_cases aD:yk=2
   .subst aD;have aZ:=za (l.o.size j d);rw[<-aw.o,<-f4]at aZ;have bS:Hid (Zm Y.P k):=λq hq=>(by rcases bO.o q hq with h0|h0<;>omega);have c4:=za (HR.o.below (zi bU.o (zi G.o F.o)));have aU:=za (S3 c4.o 2 ym yu yg ys yl S (yq,yn,yc) Y.P (uq.below aW.now F.o) bC.o bS.o aZ.o.1 aZ.o.2);have bY:Hid (entL N L j=outD (sF N Y.P ys)):=(by show _=_;unfold entL;rw[ze bp.o,<-aw.o,f4]);have aa:=l.o.list j d bp.o;rw[<-aw.o,<-f4]at aa;obtain⟨D,cm⟩:=zD (sF N Y.P ys);rw[cm.o]at aU bY aa;have c7:Hid (∀x∈D,0<=x/\x<=255):=(by show _;rw[<-cm.o];exact VY HR.o bS.o ys);have bA:=za aa;have bu:=za (((ND D).1 bA.o).2.1);clear f0 f1 f2 f3 f4 f5 f6 aW aa;go_wp2_with fail
    refine aU.o.mono ?_;rintro e I ⟨v5,rfl,aV,V⟩;have cL:Hid (mU I v5 D):=⟨uq.of_owns aV,pO aV⟩;have ah:=za (zi F.o V);clear aV V aU;go_wp2_with fail
    refine (mF v5 D I cL.o c7.o (by have:=bu.o;omega)).mono ?_;rintro e w6 (⟨_,v6,rfl,ag,bV⟩|⟨cf,_⟩);case inr=>exact yi bA.o (by rw[cf];simp)
    rw[<-bY.o]at ag;have cS:=za ag;have O:=za (zi ah.o bV);have B:=za (HO.o.below O.o);obtain⟨Zs,z,ay,aC⟩:=B.o.row;obtain⟨zj,bE,_⟩:=aC j d;have z0:w6.cell? (C,j)=some zj:=(by rw[zC z];exact bE);have fz:w6.frozen? (C,j)=false:=zF z;have ax:Hid (Q.heap.size<=C/\C<I.heap.size):=⟨by rw[b9.o];exact zL,by obtain⟨Zr,ba,_⟩:=HO.o.row;have h1:=xB ba;have h2:=ah.o.size;omega⟩;have c3:Hid (∀b,(Value.slice qa na ca).ownBlock=some b->b<I.heap.size):=λb K=>(by have h1:=(HO.o.all.lt b K).2;have h2:=ah.o.size;omega);have bw:Hid (∀b,v6.ownBlock=some b->b<w6.heap.size/\b≠C/\(Value.slice qa na ca).ownBlock≠some b):=λb K=>(by obtain⟨h1,h2⟩:=ag.lt b K;have h3:=ax.o.2;exact⟨h2,by omega,λhc=>by have:=c3.o b hc;omega⟩);have bq:Hid (qM w6 v6 (entL N L j)):=uq.of_owns ag;have cq:=za z;clear bV z ay aC bE;obtain⟨_,⟨bb,dc⟩|⟨g6,c6,dl,bb,d9,bJ,cM,cO,c9,aX⟩⟩:=id cS.o
    .subst bb;have cX:=yz.1 dc;have bn:=V3 w6 qa na ca bM.o 108;have bz:=za (B.o.step d bq.o bw.o (w7:=w6) (v7:=.slice qa na ca) (by rw[cX,yY];exact B.o.all) ⟨rfl,rfl,rfl,zL,λ_ _ _=>rfl⟩ (zu rfl) ax.o.1);clear ag;go_wp2_with (at_builtin;refine Mv _ rfl _ _ _ _ rfl _ _ rfl rfl _ _ bn ?_)
     go_roundw
     .exact⟨j+1,by omega,by go_num,(zi G.o O.o).setCell ax.o.1 _,bz.o⟩
     .simp[intOf];omega
    .subst bb;obtain⟨nX,aF⟩:=zD ((entL N L j).length);rw[aF.o]at bq bw aX |-;have dx:nX<=32:=(by rw[<-aF.o];exact l.o.ways.few j d);have aO:Hid ((ents (entL N L j)).length=nX*2):=(by show _=_;rw[NO,aF.o]);have cW:=za (Tw (entL N L j));have cI:Hid (∀(q) (u),(ents (entL N L j))[q]?=some u->w6.cell? ((⟨g6,0,none⟩:Addr).add q)=some u):=λq u hq=>(by have bZ:(⟨g6,0,none⟩:Addr).add q=⟨g6,q,none⟩:=(by unfold Addr.add;split<;>simp_all);have cj:=(zG.1 hq).1;rw[aO.o]at cj;rw[bZ,zC bJ,<-zK];rw[<-aX,zI,ze cj]at hq;exact hq);obtain⟨i0,ae,bK,z,ay⟩:=yX OY;have db:=za ae;have cG:=za bK;have cB:=za z;have cN:=za ay;have aQ:=za B.o.all;rw[bi.o]at aQ;have cc:=za (zv G.o.size O.o.size);clear ae bK z ay bJ aX cO c9 cM ag;obtain⟨v7,w7,bn,aS,n,_,cl⟩:=run_append_own_at (P:=prog) w6 Q 108 108 112 i0 (.agg #[.string {data:=#[]},()]) 2 24 D6 db.o cG.o cB.o cN.o rfl (by decide) _ _ _ aQ.o ⟨g6,0,none⟩ nX c6 (ents (entL N L j)) aO.o cI.o cW.o (by unfold maxLen;omega) (by omega) cc.o;have au:some C≠(Value.slice qa na ca).ownBlock:=λe=>B.o.ne e.symm;have z7:=World.grownBy.cell n z0 au;have bz:=za (B.o.step d bq.o bw.o (w7:=w7) (v7:=v7) (by rw[zl,bi.o,aF.o,ro];exact aS) n cl ax.o.1);have bo:=za (Cd (zi G.o O.o) n cc.o (λq hq=>(B.o.all.lt q hq).1));have f7:w7.frozen? (C,j)=false:=zF ((n.block C (xB cq.o) au).trans cq.o);clear n aS cl z0 au fz;go_wp2_with (at_builtin;refine Mv _ rfl _ _ _ _ rfl _ _ rfl rfl _ _ bn ?_)
     go_roundw
     .exact⟨j+1,by omega,by go_num,bo.o.setCell ax.o.1 _,bz.o⟩
     .simp[intOf];omega
   .have b2:(yk==2)=false:=(by simpa using aD);have cV:=za ((HO.o.skip (by rw[bp.o];exact aD)).below F.o);clear f0 f1 f2 f3 f4 f5 f6 aW aD;go_wp2;go_roundw
    .exact⟨j+1,by omega,by go_num,zi G.o F.o,cV.o⟩
    .simp[intOf];omega
  .obtain rfl:j=32:=(by omega);have a4:¬((32:Nat):Int)<32:=(by omega);have cJ:Hid (qM wr (qa,na,ca) X):=(by have:=uq.of_owns HO.o.all;rw[HX.o]at this;exact this);go_wp2_with fail
   refine (Dh _ X _ cJ.o (by have:=bD.o;omega)).mono ?_;rintro e I ⟨H,rfl,cg,ao,V⟩;have ac:=za cg;have ah:=za (zi G.o V);have cD:=za (HO.o.below V);have bH:C≠H:=(by obtain⟨Zr,ba,_⟩:=HO.o.row;have h1:=xB ba;omega);have bQ:=zv G.o.size ao;have aN:=za ao;have az:=za V;obtain⟨NM,Z⟩:=zD (ML X);have dt:NM.length=32:=(by rw[<-Z.o];have:=(N3 X X.length zL).1;rwa [xN]at this);have aL:∀i,0<=NM.getD i 0/\NM.getD i 0<=1024:=λi=>(by rw[<-Z.o];have:=(N3 X X.length zL).2 i;rw[xN]at this;have:=bD.o;omega);rw[Z.o]at ac;have n0:I.cell? (H,0)=some (.int .i64 (NM.getD 0 0)):=(by rw[zC ac.o,<-zK];have:=pQ NM 0 (by omega);rw[this,zt,zk (by omega)];rfl);have cQ:I.frozen? (H,0)=false:=zF ac.o;have i1:IntKind.i64.wrap (NM.getD 0 0+1)=NM.getD 0 0+1:=zM _ (by have:=aL 0;omega);obtain⟨M,ch⟩:=zD (NM.getD 0 0);rw[ch.o]at n0 i1;have c1:Hid (∀i,i<32->(I.setCell (H,0) (.int .i64 (M+1))).cell? ⟨H,i,none⟩=some (.int .i64 (iX X i))):=λi hi=>by
    unfold iX;rw[Z.o];by_cases ae:i=0
    .subst ae;rw[World.cell?_setCell_same _ _ _ n0,ze rfl,ch.o]
    .rw[vU _ _ _ _ (by intro hc;injection hc with _ h2;exact ae h2.symm),zb ae,Int.add_zero,zC ac.o,<-zK];have:=pQ NM i (by omega);rw[this,zt,zk (by omega)];rfl
   have O:Hid (Below Q Q (I.setCell (H,0) (.int .i64 (M+1)))):=ah.o.setCell bQ _;have cY:Hid (∃xv:Nat->Value,∀i,i<32->(I.setCell (H,0) (.int .i64 (M+1))).cell? ⟨C,i,none⟩=some (xv i)/\qM (I.setCell (H,0) (.int .i64 (M+1))) (xv i) (entL N L i)):=by
    obtain⟨Zs,z,ay,aC⟩:=HO.o.row;refine⟨λi=>(Zs[i]?).getD (.bool false),λi hi=>?_⟩;obtain⟨x,a1,a2,a3⟩:=aC i hi;have h5:=az.o.block C (xB z);have hc:(I.setCell (H,0) (.int .i64 (M+1))).heap[C]?=some (.cells Zs 108):=(yj I _ _ C bH).trans (h5.trans z);have hx:(Zs[i]?).getD (.bool false)=x:=(by rw[a1];rfl);show _=some ((Zs[i]?).getD (.bool false))/\qM _ ((Zs[i]?).getD (.bool false)) _;rw[hx,ze hi]at *
    refine⟨by rw[zC hc];exact a1,?_⟩;refine Pd a2 λb K _=>(yj I _ _ b ?_).trans (az.o.block b (a3 b K).1);have h1:=(a3 b K).1;have h2:=aN.o;show b≠H;omega
   have aR:H<(I.setCell (H,0) (.int .i64 (M+1))).heap.size:=(by have:=xB ac.o;simp[World.setCell];exact this);have dm:=zr s O.o.size;clear cg V ao aL;go_wp2;clear n0 cQ ac ah cD az aN;generalize I.setCell (H,0) (.int .i64 (M+1))=w6 at *
   go_loopw [75] (λi wr=>∃j:Nat,j<=32/\i=.int .i64 j/\Hid (Below w6 w6 wr)) (λi _=>32-(intOf i).toNat)
   .exact⟨0,by omega,rfl,zB⟩
   .obtain⟨j,hj,rfl,ad⟩:=hrel;have c:=za (zi O.o ad.o);by_cases d:j<32
    .have aq:j<E.length:=(by rw[aE.o];exact d);have U:j<L.length:=(by rw[af.o];exact d);obtain⟨J,e1,e2,e3,e4,e5,R,e7⟩:=sB HC.o j aq;have m:=aH.o.2 j aq U;have ap:=bL.o j d;rw[show L.getD j zN=L[j] by rw[zt,zk U];rfl,<-m.2.2.2.2.2.1,<-m.1]at ap;clear m;generalize E[j]=y at J e1 e2 e3 e4 e5 R e7 ap;obtain⟨yk,ym,yu,yg,ys,yl,S,yq,yn,yc⟩:=y;have J:=(c.o.cell (p:=⟨g,o+j*8,none⟩) s).trans J;have e1:=(c.o.cell (p:=⟨g,o+j*8+1,none⟩) s).trans e1;have e2:=(c.o.cell (p:=⟨g,o+j*8+2,none⟩) s).trans e2;have e3:=(c.o.cell (p:=⟨g,o+j*8+3,none⟩) s).trans e3;have e4:=(c.o.cell (p:=⟨g,o+j*8+4,none⟩) s).trans e4;have e5:=(c.o.cell (p:=⟨g,o+j*8+5,none⟩) s).trans e5;have R:=(c.o.cell (p:=⟨g,o+j*8+6,none⟩) s).trans R;have e7:=(c.o.cell (p:=⟨g,o+j*8+7,none⟩) s).trans e7;have en:=(ad.o.cell (p:=⟨H,j,none⟩) aR).trans (c1.o j d);dsimp only at J e1 e2 e3 e4 e5 R e7 ap;obtain⟨nm,c0⟩:=zD (iX X j);rw[c0.o]at en ap;obtain⟨cz,cH⟩:=ap;subst cz;have a4:(j:Int)<32:=(by omega);have cF:=zr s c.o.size;have ds:¬g=wr.heap.size:=(by omega);have co:=zr aR ad.o.size;have di:¬H=wr.heap.size:=(by omega);have F:Hid (Below wr wr (wr.alloc (.cells #[yk,ym,yu,yg,ys,yl,S,(yq,yn,yc)] 102))):=zB.alloc zL _;have a0:(wr.alloc (.cells #[yk,ym,yu,yg,ys,yl,S,(yq,yn,yc)] 102)).cell? (wr.heap.size,0)=some (.int .i64 yk):=zC (zH);have a5:(wr.alloc (.cells #[yk,ym,yu,yg,ys,yl,S,(yq,yn,yc)] 102)).cell? (wr.heap.size,5)=some (.int .i64 yl):=zC (zH);have an:=(F.o.cell (p:=⟨H,j,none⟩) co).trans en;have aT:=za (zi ad.o F.o);have b1:(yl != yl)=false:=by simp
     go_upto_region 21 with fail
     clear J e1 e2 e3 e4 e5 R e7 en;generalize wr.alloc (.cells #[yk,ym,yu,yg,ys,yl,S,(yq,yn,yc)] 102)=wn at *
     by_cases aK:yk=0
     .have b2:(yk==0)=true:=(by simpa using aK);have b3:decide (0<yl)=false:=zJ (by have:=cH aK;omega);have b4:decide (yl > 0)=false:=b3;subst aK
      go_quiet (fail)
      have bx:=za (mv aT.o nq);go_wp2;go_roundw
      .exact⟨j+1,by omega,by go_num,bx⟩
      .simp[intOf];omega
     .have b2:(yk==0)=false:=by simpa using aK
      go_quiet (fail)
      have bx:=za (mv aT.o nq);go_wp2;go_roundw
      .exact⟨j+1,by omega,by go_num,bx⟩
      .simp[intOf];omega
    .obtain rfl:j=32:=(by omega);have a4:¬((32:Nat):Int)<32:=(by omega);have bI:0<E.length:=(by rw[aE.o];omega);have bd:0<L.length:=(by rw[af.o];omega);obtain⟨J,_,_,_,_,_,R,_⟩:=sB HC.o 0 bI;have m:=aH.o.2 0 bI bd;have av:L[0].k=2:=(by have h1:=l.o.ways.root;rwa [show L.getD 0 zN=L[0] by rw[zt,zk bd];rfl]at h1);have bs:=l.o.up;rw[show L.getD 0 zN=L[0] by rw[zt,zk bd];rfl,<-m.2.2.2.2.2.2.1]at bs;rw[<-m.1]at av;rw[av]at J;rw[bs]at R;have J:=(c.o.cell (p:=⟨g,o+0*8,none⟩) s).trans J;have R:=(c.o.cell (p:=⟨g,o+0*8+6,none⟩) s).trans R;simp only[uO,va]at J R;obtain⟨xv,aI⟩:=cY.o;have ck:=za (LM wr (.slice (some (g,o)) 32 cp) E L _ (uq.below bB.o c.o) (aH.o.keep (yK.of_below c.o)) (entL N L) l.o.ways C 32 bm xv (λi hi=>⟨(ad.o.cell (p:=⟨C,i,none⟩) (zy (aI i hi).1)).trans (aI i hi).1,uq.below (aI i hi).2 ad.o⟩));clear m av bs aI;go_wp2_with fail
     refine ck.o.mono ?_;rintro e w7 ⟨rfl,cr⟩;have bo:=za (zi bU.o (zi c.o cr));clear cr ck;go_wp2
     go_end0
     exact⟨rfl,bo.o⟩
theorem Jz (h:RdAt w r N k) (c:k<=256) (a:64<=k) (f) (t bm) (L) (b:Zg N f t k L):
 Calls prog 96 #[.iface r.T r.u,.agg (encT f t),.map (some bm)] w (κ w (.tuple #[])):=Jy h c a f t bm L b _ rfl
structure Cj (N:Nat->List Int) (f:Fo) (k:Nat):Prop where
 mark:N 0=Ng k
 load:S8 N f k
 quota:mn (N 4)
 tree:∀t,t<4->uB f t=true->∃L,Zg N f t k L
theorem of_raw (h:RdAt w r N k) (hk:k<=256) (al:64<=k) (f) (ab:Cj N f k) (A) (HA:Hid (A=encF f)):
 Calls prog 43 #[.iface r.T r.u] w
  (κ w (.slice none 0 0)):=by
 have q1:=h.n1;have q2:=h.m1;have q3:=h.c1;have q4:=h.n2;have q5:=h.m2;have q6:=h.c2;have C:=za h;have y:=za ab;clear h ab;have Z:Hid (A.size=192):=by rw[HA.o];exact vX f
 have aB:Hid (A.all (·.oneCell')=true):=by rw[HA.o];exact pS f
 have aT:Hid (∀(t:Nat) (W),t<4->Calls prog 47 #[.agg A,t] W (κ W (.bool (uB f t)))):=λt W ht=>by rw[HA.o];exact RG f t W ht
 obtain⟨Z0,a8⟩:=zA (encF mR);have HZ:Hid (∀w,(zeroValue 85).run prog w=.ok (.agg Z0) w):=by rw[a8.o];exact forZ
 have aS:Hid (Z0.size=192):=by rw[a8.o];exact vX _
 have bn:=@run_makeMap prog;have av:=za y.o.mark;have p:=za (C.o.read w zB 0 (by omega));have ai:=za (C.o.len 0 (by omega));go_enter func43,ntmps43;go_wp2_with fail
 refine p.o.mono ?_;rintro e w1 ⟨v1,rfl,Q⟩;have az:=za Q.below;have a2:=za Q.at;obtain⟨g1,c1,aW,M,_⟩:=Q;rw[ai.o]at M;subst M;have ah:=za (C.o.size w1 az.o);clear p;go_wp2_with fail
 refine ah.o.mono ?_;rintro e w2 ⟨rfl,R⟩;have aG:=za (zi az.o R);have ay:=za (uq.below a2.o R);clear R ah a2;go_wp2_with fail
 refine (iY k (by omega) w2).mono ?_;rintro e w3 ⟨v3,rfl,z⟩;have aK:=za (zi aG.o z.below);have ag:=za (uq.below ay.o z.below);have a7:=za z.at;clear z ay;go_wp2_with fail
 refine (tF _ _ (N 0) (Ng k) w3 ag.o a7.o (by rw[av.o]) (by rw[ai.o];omega)).mono ?_;rw[show eqB (N 0) (Ng k)=true by unfold eqB;rw[av.o];simp];rintro e w4 ⟨rfl,a9⟩;have a0:=za (zi aK.o a9);have aq:=za (C.o.size w4 a0.o);clear a9 ag a7;go_wp2_with fail
 refine aq.o.mono ?_;rintro e w5 ⟨rfl,a6⟩;have a5:=za (zi a0.o a6);have S:=za (Wz (C.o.below a5.o) (by omega) f y.o.load);rw[<-HA.o]at S;have d1:decide ((k:Int)<64)=false:=zJ (by omega);have d2:¬((k:Int)<64):=by omega
 have d3:decide (k<64)=false:=zJ (by omega);clear a6 aq;go_wp2_with fail
 refine S.o.mono ?_;rintro e n ⟨rfl,aw⟩;have aE:=za (zi a5.o aw);clear aw S d1 d2 d3;have ao:Hid (((n.alloc (.cells Z0 85)).setRow n A).heap[n.heap.size]?=some (.cells A 85)):=ya _ _ _ _ _ _ (zH);have aL:Hid (Below n n ((n.alloc (.cells Z0 85)).setRow n A)):=xd (zB.alloc zL _) zL _
 go_upto_region 7 with (first
  | (refine uo rfl 85 rfl Z0 HZ.o ?_)
  | (refine Nl rfl 85 (.tmp 5) (.tmp 39) rfl n A rfl rfl 85 Z0 (zH) (by rw[Z.o];exact forI) (by rw[aS.o,Z.o]) aB.o ?_))
 generalize (n.alloc (.cells Z0 85)).setRow n A=v at *
 have B:Hid (MapL prog 3 (v.alloc (.map #[] 0)) v.heap.size []):=oI v;have ar:Hid (Below v v (v.alloc (.map #[] 0))):=zB.alloc zL _;have a4:=za (zi aL.o ar.o);have D:=za (zi aE.o a4.o);have U:=za (xV ar.o ao.o);have p:=za (C.o.read (v.alloc (.map #[] 0)) D.o 4 (by omega));have aC:=za (C.o.len 4 (by omega));have aU:=za (C.o.byte 4 (by omega));have aH:=za y.o.quota;go_wp2_with fail
 obtain⟨mb,aD⟩:=zD v.heap.size;rw[aD.o]at B |-;obtain⟨fb,aQ⟩:=zD n.heap.size;rw[aQ.o]at U |-;generalize v.alloc (.map #[] 0)=w8 at *
 refine p.o.mono ?_;rintro e w9 ⟨v9,rfl,s⟩;have aF:=za (zi D.o s.below);have au:=za s.at;have aa:=za (B.o.of_block (s.below.block _ B.o.lt));have ap:=za (xV s.below U.o);clear s p B U ao;go_wp2_with fail
 refine (R4 v9 (N 4) w9 au.o aU.o (by rw[aC.o];omega)).mono ?_;rintro e bl (⟨_,u,rfl,_,m⟩|⟨aA,_⟩);case inr=>exact yi aH.o aA
 have J:=za (zi aF.o m);have K:=za (aa.o.of_block (m.block _ aa.o.lt));have G:=za (xV m ap.o);clear m aa ap au;go_wp2;go_loopw [61] (λi wr=>∃t:Nat,t<=4/\i=.int .i64 t/\Hid (Below w w wr)/\Hid (MapL prog 3 wr mb [])/\Hid (wr.heap[fb]?=some (.cells A 85))) (λi _=>4-(intOf i).toNat)
 .exact⟨0,by omega,rfl,J,K,G⟩
 .clear J K G;obtain⟨t,ht,rfl,HB,O,HF⟩:=hrel;by_cases X:t<4
  .have ak:(t:Int)<4:=(by omega);have bk:0<=(t:Int):=(by omega);have Y:=za (λW=>aT.o t W X);go_wp2_with (refine yI rfl 85 (.tmp 5) rfl fb rfl 85 A (0,0) _ HF.o forT rfl (by rw[Z.o];exact forI) ?_)
   refine (Y.o wr).mono ?_;cases V:uB f t with
   | true=>
    rintro e aJ ⟨rfl,a⟩;have d:=za (zi HB.o a);have g:=za (O.o.of_block (a.block _ O.o.lt));have b:=za (xV a HF.o);obtain⟨L,hL⟩:=y.o.tree t X V;obtain⟨T,HT⟩:=zA (encT f t);have aP:Hid (T.size=48):=(by rw[HT.o];exact sf _ _);have aI:Hid (∀j,j<T.size->A[t*48+j]?=T[j]?):=(by rw[HT.o,HA.o];exact Rm f t X);have P:=za (Jz (C.o.below d.o) hk al f t mb L hL);rw[<-HT.o]at P;clear V a O HF HB hL Y;go_wp2_with (refine uU (by kernel_rfl) 83 (.tmp 69) rfl fb (t*48) rfl 85 A T (0,0) _ b.o aI.o underlying83 rfl (by rw[aP.o];exact Od) ?_)
    refine P.o.mono ?_;rintro e bo ⟨rfl,l⟩;have ax:=za (zi d.o l);have a3:=za (g.o.of_block (l.block _ g.o.lt));have a1:=za (xV l b.o);clear l g b d P;go_wp2;go_roundw
    .exact⟨t+1,by omega,by go_num,ax,a3,a1⟩
    .simp[intOf];omega
   | false=>
    rintro e aJ ⟨rfl,a⟩;have d:=za (zi HB.o a);have g:=za (O.o.of_block (a.block _ O.o.lt));have b:=za (xV a HF.o);clear V a O HF HB Y;go_wp2;go_roundw
    .exact⟨t+1,by omega,by go_num,d,g,b⟩
    .simp[intOf];omega
  .obtain rfl:t=4:=(by omega);have ak:¬((4:Nat):Int)<4:=(by omega);go_wp2_with (first
    | (at_range;refine mQ _ rfl _ _ rfl 3 4 intT RS mb [] rfl O.o ?_;intro aM E F an))
   have ae:=za (Cd HB.o F HB.o.size (λq hq=>by cases hq));have am:Hid (fy prog 3 aM mb wr.heap.size [] [] 0):=E;clear E F an;go_loopw [13] (λo wq=>o=.slice none 0 0/\Hid (Below w w wq)/\Hid (fy prog 3 wq mb wr.heap.size [] [] 0)) (λ_ _=>0)
   .exact⟨rfl,ae,am⟩
   .obtain⟨rfl,H,aj⟩:=hrel;go_wp2_with (at_next;refine RF _ rfl _ rfl 3 intT mb _ [] [] 0 rfl aj.o (λ_=>?_) (λx c w' aZ hx hm=>yi hm (by simp)))
    refine (X6 (.slice none 0 0) [] 0 wr (yL _ _ _ _) (by simp)).mono ?_;rintro e bf ⟨rfl,_,I⟩;have af:=za (Cd H.o I H.o.size (λq hq=>by cases hq));clear I;go_wp2;go_ret;exact⟨rfl,af.o⟩
theorem VW (h:RdAt w r N k) (c:k<=256) (a:64<=k) (f) (b:Cj N f k):
 Calls prog 43 #[.iface r.T r.u] w (κ w (.slice none 0 0)):=of_raw h c a f b _ rfl
structure Fs where
 dk:Dk
 k:Nat
 sq:Int
 fo:Fo
 rows:List (Int×Int)
 nodes:List Pn
 todo:List (Int×List Int)
 held:List (Int×Int)
def logR (a:Addr) (sq:Int):Array Value:=#[a,.int .i64 5,.int .i64 32,.int .u32 sq]
def pZ (d lg:Value) (fo:Fo) (rv nv tv hv:Value) (i:Nat):Value:=
 if i=0 then d else if i=1 then lg else if i<194 then nu fo ((i-2) / 48) ((i-2)%48) else if i=194 then rv else if i=195 then nv else if i=196 then tv else hv
def fsR (d lg:Value) (fo:Fo) (rv nv tv hv:Value):Array Value:=Array.ofFn (n:=198) λi=>pZ d lg fo rv nv tv hv i.val
theorem kH (d lg) (fo) (rv nv tv hv):(fsR d lg fo rv nv tv hv).size=198:=by simp[fsR]
theorem rP (d lg) (fo) (rv nv tv hv) (i) (h:i<198):(fsR d lg fo rv nv tv hv)[i]?=some (pZ d lg fo rv nv tv hv i):=by simp[fsR,h]
theorem Tr (d lg) (fo) (rv nv tv hv):∀j,j<(encF fo).size->(fsR d lg fo rv nv tv hv)[2+j]?=(encF fo)[j]? :=λj a=>by rw[vX]at a;rw[rP _ _ _ _ _ _ _ _ (by omega)];have:=uh fo (j / 48) (j%48) (by omega) (by omega);rw[show j / 48*48+j%48=j by omega]at this;rw[this];unfold pZ;rw[zb (by omega),zb (by omega),ze (by omega),show 2+j-2=j by omega]
def vr (w:World) (B:Nat) (pl:List (Int×Value)) (l:List (Int×List Int)):Prop:=
 pl.map (·.1)=l.map (·.1)/\∀i (h) (h':i<l.length),js w B pl[i].2 l[i].2
structure jl (w:World) (F:Nat->Prop) (pl:List (Int×Value)) (l:List (Int×List Int)):Prop where
 sec:vr w 0 pl l
 out:∀y∈pl,∀g,y.2.ownBlock=some g->¬F g
def GL (l:List (Int×Int)):List (Int×Value):=l.map λy=>(y.1,.int .i64 y.2)
structure FsAt (w:World) (gf:Nat) (s:Fs) (F:Nat->Prop) (a:Addr):Prop where
 ex:∃gl rv nv bt bh E tl FD,
  w.heap[gf]?=some (.cells (fsR a (gl,()) s.fo rv nv (.map (some bt)) (.map (some bh))) 97) /\
  uT w a s.dk s.k FD/\(∀i,FD i->F i)/\¬FD gl/\w.heap[gl]?=some (.cells (logR a s.sq) 178)/\F gl /\
  Out F w (λw'=>uq w' rv 2 s.rows.length (qP s.rows)) /\
  Out F w (λw'=>uq w' nv 8 E.length (ue E))/\Ns F w E s.nodes /\
  MapL prog 3 w bt tl/\jl w F tl s.todo/\F bt/\bt≠bh/\¬FD bt /\
  MapL prog 3 w bh (GL s.held)/\F bh/\¬FD bh
 self:F gf
 len:s.nodes.length=32
 fin:∀i,F i->i<w.heap.size
 hold:s.held.length<=1000/\∀y∈s.held,0<=y.2/\y.2<=1000000
 k0:64<=s.k
 k1:s.k<=256
 rows:s.rows.length<=20
theorem P8 (h:js w B v D) (l:∀(g) (c),B<=g->w.heap[g]?=some (.cells c 5)->w'.heap[g]?=w.heap[g]?):js w' B v D:=by obtain⟨g,b,a,j,i,k,d,e,f⟩:=h;exact⟨g,b,a,j,i,k,d,(l g _ d e).trans e,f⟩
theorem js.at (h:js w B v D):uM w v D:=by obtain⟨g,d,a,rfl,c,i,f,e,b⟩:=h;exact rH c e b
theorem js.mono {B':Nat} (h:js w B v D) (k:B'<=B):js w B' v D:=by obtain⟨g,b,a,e,d,i,j,f,c⟩:=h;exact⟨g,b,a,e,d,i,by omega,f,c⟩
theorem vr.keep (h:vr w B pl l) (d:∀(g) (c),B<=g->w.heap[g]?=some (.cells c 5)->w'.heap[g]?=w.heap[g]?):vr w' B pl l:=
 ⟨h.1,λi a b=>P8 (h.2 i a b) d⟩
theorem vr.len (h:vr w B pl l):pl.length=l.length:=by have:=zQ List.length h.1;simpa using this
theorem vr.nil (w) (B):vr w B [] []:=⟨rfl,λi h=>by simp at h⟩
theorem vr.tail (h:vr w B (x::pl) (y::l)):x.1=y.1/\js w B x.2 y.2/\vr w B pl l:=by have c:=h.1;simp only[yB,uH]at c;refine⟨c.1,h.2 0 (by simp) (by simp),c.2,λi a b=>?_⟩;have:=h.2 (i+1) (by simpa using a) (by simpa using b);simpa using this
theorem vr.cons (d:x.1=y.1) (e:js w B x.2 y.2) (c:vr w B pl l):vr w B (x::pl) (y::l):=by
 refine⟨by simp[d,c.1],λi a b=>?_⟩;cases i with
 | zero=>exact e
 | succ i=>simpa using c.2 i (by simpa using a) (by simpa using b)
theorem vr.get {w:World} {B:Nat} {k:Int}:∀{pl} {l},vr w B pl l->(getZ pl k=none/\getZ l k=none)\/∃v D,getZ pl k=some v/\getZ l k=some D/\js w B v D
 | [],[],_=>zu ⟨rfl,rfl⟩
 | [],y::l,h=>by have:=h.len;simp at this
 | x::pl,[],h=>by have:=h.len;simp at this
 | x::pl,y::l,h=>by
  obtain⟨b,c,d⟩:=h.tail;unfold getZ;by_cases a:x.1=k
  .rw[ze a,ze (b▸a)];exact zw ⟨_,_,rfl,rfl,c⟩
  .rw[zb a,zb (b▸a)];exact vr.get d
theorem vr.put {w:World} {B:Nat} {k:Int} {v:Value} {D:List Int} (d:js w B v D):∀{pl} {l},vr w B pl l->vr w B (putZ pl k v) (putZ l k D)
 | [],[],_=>vr.cons rfl d (vr.nil _ _)
 | [],y::l,h=>by have:=h.len;simp at this
 | x::pl,[],h=>by have:=h.len;simp at this
 | x::pl,y::l,h=>by
  obtain⟨a,c,b⟩:=h.tail;unfold putZ;rw[<-a];split
  .exact vr.cons rfl d (vr.cons a c b)
  .split
   .exact vr.cons rfl d b
   .exact vr.cons a c (vr.put d b)
theorem jl.len (h:jl w F pl l):pl.length=l.length:=h.sec.len
theorem jl.keep {F':Nat->Prop} (h:jl w F pl l) (v:∀(g) (c),¬F g->w.heap[g]?=some (.cells c 5)->w'.heap[g]?=w.heap[g]? /\¬F' g):jl w' F' pl l:=by
 have o:∀i (b:i<pl.length),∃g c,pl[i].2.ownBlock=some g/\w.heap[g]?=some (.cells c 5):=λi b=>by obtain⟨g,e,d,a,_,_,_,j,_⟩:=h.sec.2 i b (by rw[<-h.len];exact b);exact⟨g,d,by rw[a];rfl,j⟩
 refine⟨⟨h.sec.1,λi b n=>?_⟩,λy m g f t=>?_⟩
 .have q:=h.sec.2 i b n;obtain⟨g,e,d,a,k,r,s,j,p⟩:=id q;exact⟨g,e,d,a,k,r,s,(v g _ (h.out _ (Nj b) g (by rw[a];rfl)) j).1.trans j,p⟩
 .obtain⟨i,b,rfl⟩:=wv m;obtain⟨u,c,a,k⟩:=o i b;rw[f]at a;injection a with a;subst a;exact (v g c (h.out _ m g f) k).2 t
theorem UR {l:List (Int×Int)} {k:Int}:(getZ (GL l) k).getD (.int .i64 0)=.int .i64 ((getZ l k).getD 0):=by
 induction l with
 | nil=>rfl
 | cons y l a=>
  show (getZ ((y.1,Value.int .i64 y.2)::GL l) k).getD _=_;unfold getZ;split
  .rfl
  .exact a
theorem FsAt.below {gf:Nat} {s:Fs} {a:Addr} (h:FsAt w gf s F a) (R:Below w w w'):FsAt w' gf s F a:=by
 obtain⟨⟨n,z,C,Q,L,E,o,O,u,p,G,t,x,J,v,D,K,b,l,k,e,f,d,m,j⟩,M,N,y,B,A,I,q⟩:=h;exact⟨⟨n,z,C,Q,L,E,o,O,xV R u,p.below R,G,t,xV R x,J,v.below R,D.below R,K.keep (yK.of_below R),b.of_block (R.block _ b.lt),l.keep (λg c r P=>⟨R.block g (xB P),r⟩),k,e,f,d.of_block (R.block _ d.lt),m,j⟩,
  M,N,λi H=>zr (y i H) R.size,B,A,I,q⟩
