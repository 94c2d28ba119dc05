import Derived.Test.YtmanoiagchpelaaGreatDoorKA19
import Derived.Test.YtmanoiagchpelaaGreatDoorKA21
import Derived.Test.YtmanoiagchpelaaGreatDoorKA23
set_option maxHeartbeats 0
set_option linter.all false
set_option maxRecDepth 100000
namespace Go.Proofs.YtmanoiagchpelaaGreatDoor
open Go.Proofs.Tryz Go.RowKit
variable {B k:Nat} {D:List Int} {F:Nat->Prop} {N:Nat->List Int} {l:List (Int×List Int)} {pl:List (Int×Value)} {r:Rdr} {v:Value} {w w':World} {x:Int×Value} {y:Int×List Int}
theorem Sa (W):(Instr.makeSlice 217 (.int .i64 32) (.int .i64 32)).run prog W=.ok (.slice (some ⟨W.heap.size,0,none⟩) 32 32) (W.alloc (.cells (List.replicate 32 (Value.slice none 0 0)).toArray 42)):=by kernel_rfl
theorem LD (h:RdAt w r N k) {p:Int} (b:0<=p) (c:p<k):∀x∈tT N p,0<=x/\x<=255:=fun x a=>by
 unfold tT at a;split at a
 .rw[uX]at a;omega
 .exact h.byte _ (by omega) x a
theorem Lz (h:RdAt w r N k) {P:List Int} (c:ml P k) (s):∀x∈tO N P s,0<=x/\x<=255:=fun x a=>by unfold tO at a;obtain⟨p,b,a⟩:=vA.1 (yY a);exact LD h (c p b).1 (c p b).2 x a
def po (N:Nat->List Int) (L:List Pn):List Int:=tO N (L.getD 0 zN).P (L.getD 0 zN).s
def qX (X:List En) (i:Nat):Int:=(qq X).getD i 0+if i=0 then 1 else 0
structure Zc (N:Nat->List Int) (f:Fo) (t k:Nat) (L:List Pn):Prop where
 tree:jy N (f.nd t) k
 eq:sY N (f.nd t) 32=L
 own:kL (f.nd t) L (f.hs t) k
 size:0<=(L.getD 0 zN).s/\(L.getD 0 zN).s<=512
 list:sU (po N L)=true
 root:Wg L (outD (po N L))
 up:(L.getD 0 zN).up=1
 names:∀i,i<32->(L.getD i zN).l=qX (outD (po N L)) i/\((L.getD i zN).k=0->qX (outD (po N L)) i<=0)
section
variable {P : Program}
theorem Ke {ops:Array Oper} {Q:Act->Prop} {rest:List Oper} {o:Oper} {a:Act} {C:World->Prop} (x) (nm) (i:o.op=.call {callee:=.invoke x nm,args:=#[],argTypes:=#[]}) (j:Region.wanted o (yielded ops a.tmps)=true) (f) (args)
 (g:∀w,(execOp a.eval o).run P w=.ok (.enter f args) w) (v)
 (k:∀w' w'',C w'->Below w' w' w''->C w'') (l:∀w',C w'->Calls P f args w' fun e w''=>e=.returned v/\Below w' w' w'') (h:wpQuiet P ops C Q rest (a.put o.dst v)):wpQuiet P ops C Q (o::rest) a:=
 tD j fun _ c=>⟨v,fun w' b=>by have _:=i;unfold Oper.quietAt;rw[g];exact⟨rfl,(l w' b).mono fun _ _ ⟨g,d⟩=>⟨g,k _ _ b d⟩⟩,c _ h⟩
end
theorem TN (h:RdAt w r N k) (hk:k<=256) (aj:64<=k) (f) (t bm) (L) (aa:Zc N f t k L) (A) (HA:Hid (A=encT f t)):
 Calls prog 113 #[.iface r.T r.u,.agg A,.map (some bm)] w
  (fun e w'=>e=.returned (.tuple #[])/\Below w w w'):=by
 have q4:=h.n2;have q5:=h.m2;have q6:=h.c2;have HR:=za h;have s:=za aa;have bU:Hid (A.size=48):=by rw[HA.o];exact oY f t
 have bK:Hid (∀W,Below w w W->Calls prog 77 #[.iface r.T r.u,.agg A] W (fun e w'=>∃v,e=.returned (.tuple #[v,()])/\ja W v L w')):=fun W J=>by have:=Xo (h.below J) f t aa.tree;rw[aa.eq]at this;rw[HA.o];exact this
 clear h aa;go_enter func113,ntmps113;go_wp2_with (refine yS rfl 104 (.tmp 4) rfl w rfl 104 A (0,0) _ (zH) vy rfl (by rw[bU.o];exact qT) ?_)
 have bL:Hid (Below w w (w.alloc (.cells A 104))):=zB.alloc zL _;have bM:Hid ((w.alloc (.cells A 104)).heap[w.heap.size]?=some (.cells A 104)):=zH;generalize w.alloc (.cells A 104)=w1 at *
 refine (bK.o w1 bL.o).mono ?_;rintro e w2 ⟨v,rfl,E,hO,hE,aZ⟩;have HO:=za hO;have HE:=za hE;have b0:=za (zf bL.o aZ);have co:=za (wy aZ bM.o);have af:=za s.o.root.len;have az:Hid (E.length=32):=by show _=_;rw[HE.o.1];exact af.o
 obtain⟨p,cp,bs,_⟩:=tV hO;rw[af.o]at bs;subst bs;have bD:Hid (wh w2 (.slice p 32 cp) 8 E.length (uG E)):=by have:=wh.of_owns hO;rw[<-HE.o.1]at this;exact this
 have c9:Hid (∀W,Below w2 w2 W->Calls prog 152 #[k,.agg A,.slice p 32 cp,.map (some bm)] W (fun e w'=>e=.returned (.bool true)/\Below W W w')):=fun W J=>by rw[HA.o];exact NZ W f t k bm hk _ E L _ (wh.below bD.o J) (HE.o.keep (yQ.of_below J)) (by rw[af.o];omega) s.o.own
 clear hO hE aZ bM bK;go_wp2_with fail
 refine wQ (by kernel_rfl) (by kernel_rfl) ?_
 repeat (first
  | go_big_quiet_skip
  | (refine Ke (.tmp 26) "Size" rfl rfl r.fs #[r.rs] (fun W => by simp [execOp, resolve, invoke, callMethod, go_sem, q4, q5, q6]) (.int .i64 (k : Int)) (fun _ _ => qu) (fun w' hw => HR.o.size w' (zf b0.o (sF hw))) ?_; simp only [Act.put, zK, yi, yf])
  | (refine Gj rfl 104 (.tmp 4) rfl w rfl 104 A (0,0) _ (fun _ hw=>Zv hw co.o) vy rfl (by rw[bU.o];exact qT) ?_;simp only[Act.put,zK,yi,yf])
  | (refine qE 152 #[.tmp 27,.tmp 28,.tmp 29,.tmp 30] #[3,104,108,116] rfl rfl (fun _ _=>by kernel_rfl) #[k,.agg A,.slice p 32 cp,.map (some bm)] (by kernel_rfl) (.bool true) (fun _ _=>qu) (fun w' hw=>c9.o w' (sF hw)) ?_;simp only[Act.put,zK,yi,yf])
  | (go_big_quiet_want;go_big_quiet_op;go_big_quiet_on))
 refine ve ?_;intro w3 b8;have a2:=sF b8;have bB:=za (zf b0.o a2);have bo:=za (wh.below bD.o a2);have a4:=za (HE.o.keep (yQ.of_below a2));clear b8 a2;have cl:=Sa;obtain⟨ZE,aV⟩:=zD ((List.replicate 32 (Value.slice none 0 0)).toArray);rw[aV.o]at cl;have cM:Hid (ZE.size=32):=by show _=_;rw[<-aV.o];rfl
 obtain⟨p2,df,bA,HP⟩:=jT bo.o;rw[az.o]at bA HP;injection bA with S _ e2;subst S e2;obtain⟨g,o,rfl,l,hc⟩:=HP.o (by omega);have HC:=za hc;clear hc HP;have HD:=za s.o.list;obtain⟨X,HX⟩:=zD (outD (po N L));have ad:=za s.o.root;have bx:=za s.o.names;rw[HX.o]at ad bx;go_wp2;have cB:Hid (Below w3 w3 (w3.alloc (.cells ZE 42))):=zB.alloc zL _;have bw:Hid ((w3.alloc (.cells ZE 42)).heap[w3.heap.size]?=some (.cells ZE 42)):=zH;obtain⟨n,aL⟩:=zD w3.heap.size;rw[aL.o]at bw ⊢;generalize w3.alloc (.cells ZE 42)=w4 at *
 go_loopw [9,38] (fun a i wr=>∃j:Nat,j<=32/\i=.int .i64 j/\Hid (Below w3 w3 wr)/\((j=0/\a=.slice none 0 0/\Hid (wr.heap[n]?=some (.cells ZE 42)))\/(0<j/\Hid (rM wr a X)/\∃xv,Hid (wr.cell? (n,0)=some xv)/\Hid (rM wr xv X)))) (fun _ i _=>32-(intOf i).toNat)
 case atStart=>exact⟨0,by omega,rfl,cB,zr ⟨rfl,rfl,bw⟩⟩
 case round=>
  obtain⟨j,hj,rfl,I,bz⟩:=hrel;by_cases K:j<32
  .have al:j<E.length:=(by rw[az.o];exact K);have B:j<L.length:=(by rw[af.o];exact K);obtain⟨G,S,e2,e3,e4,e5,H,e7⟩:=mN HC.o j al;have d:=za ((a4.o.2 j al B).keep (yQ.of_below I.o));have z:=ad.o.kd j B;rw[<-d.o.1]at z;have bp:=za (s.o.own.few _ (zx B));have b6:=za (s.o.own.pts _ (zx B));have ba:Hid (L[j]=L.getD j zN):=(by show _=_;rw[zi,zh B];rfl);generalize L[j]=Y at d bp b6 ba;generalize E[j]=y at G S e2 e3 e4 e5 H e7 z d;obtain⟨yk,ym,yu,yg,ys,yl,M,yq,yn,yc⟩:=y;have G:=(I.o.cell (p:=⟨g,o+j*8,none⟩) l).trans G;have S:=(I.o.cell (p:=⟨g,o+j*8+1,none⟩) l).trans S;have e2:=(I.o.cell (p:=⟨g,o+j*8+2,none⟩) l).trans e2;have e3:=(I.o.cell (p:=⟨g,o+j*8+3,none⟩) l).trans e3;have e4:=(I.o.cell (p:=⟨g,o+j*8+4,none⟩) l).trans e4;have e5:=(I.o.cell (p:=⟨g,o+j*8+5,none⟩) l).trans e5;have H:=(I.o.cell (p:=⟨g,o+j*8+6,none⟩) l).trans H;have e7:=(I.o.cell (p:=⟨g,o+j*8+7,none⟩) l).trans e7;dsimp only at G S e2 e3 e4 e5 H e7 z;have av:(j:Int)<32:=(by omega);have cq:=zo l I.o.size;have dh:¬g=wr.heap.size:=(by omega);have m:Hid (Below wr wr (wr.alloc (.cells #[yk,ym,yu,yg,ys,yl,M,(yq,yn,yc)] 123))):=zB.alloc zL _;rcases bz with⟨aQ,rfl,cE⟩|⟨aQ,aY,xv,R,a7⟩
   .subst aQ;have z:=z.2 rfl;subst z;simp only[uL,vC]at G S e2 e3 e4 e5 H e7;obtain⟨f0,f1,f2,f3,f4,f5,f6,bq⟩:=d.o;dsimp only at f0 f1 f2 f3 f4 f5 f6;have aP:=za s.o.size;rw[<-ba.o,<-f4]at aP;have b9:Hid (ml Y.P k):=fun q hq=>(by rcases b6.o q hq with h0|h0<;>omega);have ci:=za (HR.o.below (zf bB.o (zf I.o m.o)));have ax:=za (Vg ci.o 2 ym yu yg ys yl M (yq,yn,yc) Y.P (wh.below bq.now m.o) bp.o b9.o aP.o.1 aP.o.2);have bl:Hid (po N L=tO N Y.P ys):=(by show _=_;unfold po;rw[<-ba.o,f4]);rw[<-bl.o]at ax;obtain⟨D,a9⟩:=zD (po N L);rw[a9.o]at ax;have ck:Hid (∀x∈D,0<=x/\x<=255):=(by show _;rw[<-a9.o,bl.o];exact Lz HR.o b9.o ys);have bn:Hid (sU D=true):=(by show _;rw[<-a9.o];exact HD.o);have cf:Hid (outD D=X):=(by show _=_;rw[<-a9.o];exact HX.o);have bg:=za (((nB D).1 bn.o).2.1);clear f0 f1 f2 f3 f4 f5 f6 bq;go_wp2_with fail
    refine ax.o.mono ?_;rintro e w5 ⟨v5,rfl,aM,C⟩;have cv:Hid (sx w5 v5 D):=⟨wh.of_owns aM,jA aM⟩;have a8:=za (zf m.o C);clear aM C ax;go_wp2_with fail
    refine (Vz v5 D w5 cv.o ck.o (by have:=bg.o;omega)).mono ?_;rintro e w6 (⟨_,v6,rfl,bc,bC⟩|⟨bN,_⟩);case inr=>exact zY bn.o (by rw[bN];simp)
    rw[cf.o]at bc;have bG:=za bc;have Z:=za (zf a8.o bC);have ag:=za (wy Z.o cE.o);clear bc bC;have z0:w6.cell? (n,0)=ZE[0]? :=zC ag.o;have z1:ZE[0]?=some (.slice none 0 0):=(by rw[<-aV.o];rfl);rw[z1]at z0;have fz:w6.frozen? (n,0)=false:=zF ag.o;clear z1;obtain⟨_,⟨aR,cI⟩|⟨g6,c6,cQ,aR,dr,aW,cw,c0,cm,aN⟩⟩:=id bG.o
    .subst aR;have bR:=yR.1 cI;go_wp2;go_roundw;case rel=>
      refine⟨1,by omega,rfl,(zf I.o Z.o).setCell (by show w3.heap.size<=n;rw[aL.o];exact zL) _,zu ⟨by omega,?_,.slice none 0 0,?_,?_⟩⟩
      .rw[bR];exact⟨rfl,zr ⟨rfl,none,0,rfl⟩⟩
      .exact sW _ _ _ z0
      .rw[bR];exact⟨rfl,zr ⟨rfl,none,0,rfl⟩⟩
     case measure=>simp[intOf]
    .subst aR;have bI:Hid (rM w6 (g6,0,X.length,c6) X):=wh.of_owns bG.o;obtain⟨nX,a1⟩:=zD X.length;rw[a1.o]at bI aN ⊢;have dg:nX<=32:=(by rw[<-a1.o];exact ad.o.few);have cC:=za aW;have aI:Hid ((ents X).length=nX*2):=(by show _=_;rw[l3,a1.o]);have cD:=za (fR X);have ct:Hid (∀(q) (u),(ents X)[q]?=some u->w6.cell? ((⟨g6,0,none⟩:Addr).add q)=some u):=fun q u hq=>(by have bH:(⟨g6,0,none⟩:Addr).add q=⟨g6,q,none⟩:=(by unfold Addr.add;split<;>simp_all);have bQ:=(zJ.1 hq).1;rw[aI.o]at bQ;rw[bH,zC aW,<-zO];rw[<-aN,zI,ze bQ]at hq;exact hq);obtain⟨i0,ae,bv,bT,bF⟩:=xy Vo;have cH:=za ae;have cr:=za bv;have cn:=za bT;have cz:=za bF;clear ae bv bT bF aW aN c0 cm cw;go_wp2_with (at_builtin;refine yI _ rfl _ _ 42 rfl w6.heap.size 46 i0 (.agg #[.string {data:=#[]},()]) 2 24 oR cH.o cr.o cn.o cz.o rfl (by decide) _ _ _ rfl (xd _ _ _ _) ⟨g6,0,none⟩ nX c6 (ents X) rfl aI.o ct.o cD.o (by unfold maxLen;omega) (by omega) zL ?_;intro v7 w7 au ap _;have O:=za (zB.grown ap zL (fun q hq=>by cases hq));have cA:=za (wy O.o ag.o);have z7:=(O.o.cell (p:=⟨n,0,none⟩) (xR ag.o)).trans z0;have dx:w7.frozen? (n,0)=false:=zF cA.o)
     have c5:Hid (rM w7 v7 X):=(by have:=wh.of_owns au;rw[yO,yU,<-a1.o]at this;exact this);have c4:=za (wh.below bI.o O.o);have cy:Hid (∀b,v7.ownBlock=some b->b≠n):=fun b J hc=>(by have h1:=(au.lt b J).1;have h2:=xR ag.o;omega);have cu:=za (tC cC.o ag.o (by decide));clear z0 fz au ap;go_roundw;case rel=>
      have br:∀b,b≠n->(w7.setCell (n,0) (g6,0,nX,c6)).heap[b]?=w7.heap[b]? :=fun b J=>yE w7 _ _ b J;refine⟨1,by omega,rfl,(zf I.o (zf Z.o O.o)).setCell (by show w3.heap.size<=n;rw[aL.o];exact zL) _,zu ⟨by omega,ZU c5.o (fun b J _=>br b (cy.o b J)),_,sW _ _ _ z7,ZU c4.o (fun b J _=>br b ?_)⟩⟩;injection J with J;rw[<-J];exact cu.o
     case measure=>simp[intOf]
   .have b2:(yk==2)=false:=(by have:¬yk=2:=fun hc=>(by have:=z.1 hc;omega);simpa using this);clear z;go_wp2;go_roundw;case rel=>exact⟨j+1,by omega,by go_num,zf I.o m.o,zu ⟨by omega,wh.below aY.o m.o,xv,(m.o.cell (p:=⟨n,0,none⟩) (zG R.o)).trans R.o,wh.below a7.o m.o⟩⟩
    case measure=>simp[intOf];omega
  .obtain rfl:j=32:=(by omega);have av:¬((32:Nat):Int)<32:=(by omega);rcases bz with⟨aQ,_⟩|⟨_,aY,xv,R,a7⟩
   .omega
   have cP:=ad.o.few;go_wp2_with fail
   refine (P9 _ X _ aY.o (by omega)).mono ?_;rintro e w5 ⟨F,rfl,bO,aC,C⟩;have U:=za bO;have a8:=za (zf I.o C);have aE:=za ((C.cell (p:=⟨n,0,none⟩) (zG R.o)).trans R.o);have b5:=za (wh.below a7.o C);have bt:n≠F:=(by have:=zG R.o;show n≠F;have h2:n<wr.heap.size:=this;omega);have b7:=zt I.o.size aC;have dq:Hid (∀b,xv.ownBlock=some b->b<wr.heap.size->b≠F):=fun b _ J hc=>(by omega);obtain⟨NM,Q⟩:=zD (qq X);have da:NM.length=32:=(by rw[<-Q.o];have:=(UV X X.length zL).1;rwa [xJ]at this);have aB:∀i,0<=NM.getD i 0/\NM.getD i 0<=32:=fun i=>(by rw[<-Q.o];have:=(UV X X.length zL).2 i;rw[xJ]at this;omega);rw[Q.o]at U;have n0:w5.cell? (F,0)=some (.int .i64 (NM.getD 0 0)):=(by rw[zC U.o,<-zO];have:=mu NM 0 (by omega);rw[this,zi,zh (by omega)];rfl);have c3:w5.frozen? (F,0)=false:=zF U.o;have i1:IntKind.i64.wrap (NM.getD 0 0+1)=NM.getD 0 0+1:=zQ _ (by have:=aB 0;omega);obtain⟨V,bP⟩:=zD (NM.getD 0 0);rw[bP.o]at n0 i1;have ch:Hid (∀i,i<32->(w5.setCell (F,0) (.int .i64 (V+1))).cell? ⟨F,i,none⟩=some (.int .i64 (qX X i))):=fun i hi=>by
    unfold qX;rw[Q.o];by_cases ae:i=0
    .subst ae;rw[sW _ _ _ n0,ze rfl,bP.o]
    .rw[uP _ _ _ _ (by intro hc;injection hc with _ h2;exact ae h2.symm),zb ae,Int.add_zero,zC U.o,<-zO];have:=mu NM i (by omega);rw[this,zi,zh (by omega)];rfl
   have Z:Hid (Below w3 w3 (w5.setCell (F,0) (.int .i64 (V+1)))):=a8.o.setCell b7 _;have aF:Hid ((w5.setCell (F,0) (.int .i64 (V+1))).cell? (n,0)=some xv):=(uD (yE w5 _ _ n bt)).trans aE.o;have bJ:Hid (rM (w5.setCell (F,0) (.int .i64 (V+1))) xv X):=ZU a7.o (fun b _ hl=>(yE w5 _ _ b (by show b≠F;omega)).trans (C.block b hl));have aJ:F<(w5.setCell (F,0) (.int .i64 (V+1))).heap.size:=(by have:=xR U.o;simp[World.setCell];exact this);have cR:=zo l Z.o.size;clear bO C aC aB;go_wp2;clear n0 c3 U a8 aE b5;generalize w5.setCell (F,0) (.int .i64 (V+1))=w6 at *
   go_loopw [75] (fun i wr=>∃j:Nat,j<=32/\i=.int .i64 j/\Hid (Below w6 w6 wr)) (fun i _=>32-(intOf i).toNat)
   case atStart=>exact⟨0,by omega,rfl,zB⟩
   case round=>
    obtain⟨j,hj,rfl,ab⟩:=hrel;have c:=za (zf Z.o ab.o);by_cases K:j<32
    .have al:j<E.length:=(by rw[az.o];exact K);have B:j<L.length:=(by rw[af.o];exact K);obtain⟨G,S,e2,e3,e4,e5,H,e7⟩:=mN HC.o j al;have d:=a4.o.2 j al B;have ak:=bx.o j K;rw[show L.getD j zN=L[j] by rw[zi,zh B];rfl,<-d.2.2.2.2.2.1,<-d.1]at ak;clear d;generalize E[j]=y at G S e2 e3 e4 e5 H e7 ak;obtain⟨yk,ym,yu,yg,ys,yl,M,yq,yn,yc⟩:=y;have G:=(c.o.cell (p:=⟨g,o+j*8,none⟩) l).trans G;have S:=(c.o.cell (p:=⟨g,o+j*8+1,none⟩) l).trans S;have e2:=(c.o.cell (p:=⟨g,o+j*8+2,none⟩) l).trans e2;have e3:=(c.o.cell (p:=⟨g,o+j*8+3,none⟩) l).trans e3;have e4:=(c.o.cell (p:=⟨g,o+j*8+4,none⟩) l).trans e4;have e5:=(c.o.cell (p:=⟨g,o+j*8+5,none⟩) l).trans e5;have H:=(c.o.cell (p:=⟨g,o+j*8+6,none⟩) l).trans H;have e7:=(c.o.cell (p:=⟨g,o+j*8+7,none⟩) l).trans e7;have en:=(ab.o.cell (p:=⟨F,j,none⟩) aJ).trans (ch.o j K);dsimp only at G S e2 e3 e4 e5 H e7 ak;obtain⟨nm,cg⟩:=zD (qX X j);rw[cg.o]at en ak;obtain⟨ce,cs⟩:=ak;subst ce;have av:(j:Int)<32:=(by omega);have cq:=zo l c.o.size;have cZ:¬g=wr.heap.size:=(by omega);have bV:=zo aJ ab.o.size;have cN:¬F=wr.heap.size:=(by omega);have m:Hid (Below wr wr (wr.alloc (.cells #[yk,ym,yu,yg,ys,yl,M,(yq,yn,yc)] 123))):=zB.alloc zL _;have a0:(wr.alloc (.cells #[yk,ym,yu,yg,ys,yl,M,(yq,yn,yc)] 123)).cell? (wr.heap.size,0)=some (.int .i64 yk):=zC (zH);have a5:(wr.alloc (.cells #[yk,ym,yu,yg,ys,yl,M,(yq,yn,yc)] 123)).cell? (wr.heap.size,5)=some (.int .i64 yl):=zC (zH);have an:=(m.o.cell (p:=⟨F,j,none⟩) bV).trans en;have aK:=za (zf ab.o m.o);have b1:(yl != yl)=false:=by simp
     go_upto_region 21 with fail
     clear G S e2 e3 e4 e5 H e7 en;generalize wr.alloc (.cells #[yk,ym,yu,yg,ys,yl,M,(yq,yn,yc)] 123)=wn at *
     by_cases a6:yk=0
     .have b2:(yk==0)=true:=(by simpa using a6);have b3:decide (0<yl)=false:=zz (by have:=cs a6;omega);have b4:decide (yl > 0)=false:=b3;subst a6
      go_quiet (fail)
      have bi:=za (U6 aK.o nq);go_wp2;go_roundw;case rel=>exact⟨j+1,by omega,by go_num,bi⟩
      case measure=>simp[intOf];omega
     .have b2:(yk==0)=false:=by simpa using a6
      go_quiet (fail)
      have bi:=za (U6 aK.o nq);go_wp2;go_roundw;case rel=>exact⟨j+1,by omega,by go_num,bi⟩
      case measure=>simp[intOf];omega
    .obtain rfl:j=32:=(by omega);have av:¬((32:Nat):Int)<32:=(by omega);have bu:0<E.length:=(by rw[az.o];omega);have aT:0<L.length:=(by rw[af.o];omega);obtain⟨G,_,_,_,_,_,H,_⟩:=mN HC.o 0 bu;have d:=a4.o.2 0 bu aT;have ao:=(ad.o.kd 0 aT).2 rfl;have bd:=s.o.up;rw[show L.getD 0 zN=L[0] by rw[zi,zh aT];rfl,<-d.2.2.2.2.2.2.1]at bd;rw[<-d.1]at ao;rw[ao]at G;rw[bd]at H;have G:=(c.o.cell (p:=⟨g,o+0*8,none⟩) l).trans G;have H:=(c.o.cell (p:=⟨g,o+0*8+6,none⟩) l).trans H;simp only[uL,vC]at G H;have bX:=(ab.o.cell (p:=⟨n,0,none⟩) (zG aF.o)).trans aF.o;have bS:=za (SN wr (.slice (some (g,o)) 32 cp) E L _ (wh.below bo.o c.o) (a4.o.keep (yQ.of_below c.o)) X ad.o n 32 bm xv bX (wh.below bJ.o ab.o));clear d ao bd bX;go_wp2_with fail
     refine bS.o.mono ?_;rintro e w7 ⟨rfl,bW⟩;have c7:=za (zf bB.o (zf c.o bW));clear bW bS;go_wp2
     go_end0
     exact⟨rfl,c7.o⟩
theorem TO (h:RdAt w r N k) (c:k<=256) (a:64<=k) (f) (t bm) (L) (b:Zc N f t k L):
 Calls prog 113 #[.iface r.T r.u,.agg (encT f t),.map (some bm)] w (fun e w'=>e=.returned (.tuple #[])/\Below w w w'):=TN h c a f t bm L b _ rfl
structure lT (N:Nat->List Int) (f:Fo) (k:Nat):Prop where
 mark:N 0=rB k
 load:jz N f k
 quota:lQ (N 4)
 tree:∀t,t<4->vO f t=true->∃L,Zc N f t k L
theorem of_raw (h:RdAt w r N k) (hk:k<=256) (al:64<=k) (f) (ab:lT N f k) (A) (HA:Hid (A=encF f)):
 Calls prog 60 #[.iface r.T r.u] w
  (fun e w'=>e=.returned (.slice none 0 0)/\Below w w w'):=by
 have q1:=h.n1;have q2:=h.m1;have q3:=h.c1;have q4:=h.n2;have q5:=h.m2;have q6:=h.c2;have C:=za h;have y:=za ab;clear h ab;have Z:Hid (A.size=192):=by rw[HA.o];exact uj f
 have aB:Hid (A.all (·.oneCell')=true):=by rw[HA.o];exact nx f
 have aT:Hid (∀(t:Nat) (W),t<4->Calls prog 76 #[.agg A,t] W fun e w'=>e=.returned (.bool (vO f t))/\Below W W w'):=fun t W ht=>by rw[HA.o];exact jN f t W ht
 obtain⟨Z0,a8⟩:=zA (encF tL);have HZ:Hid (∀w,(zeroValue 106).run prog w=.ok (.agg Z0) w):=by rw[a8.o];exact forZ
 have aS:Hid (Z0.size=192):=by rw[a8.o];exact uj _
 have bn:=@run_makeMap prog;have av:=za y.o.mark;have p:=za (C.o.read w zB 0 (by omega));have ai:=za (C.o.len 0 (by omega));go_enter func60,ntmps60;go_wp2_with fail
 refine p.o.mono ?_;rintro e w1 ⟨v1,rfl,Q⟩;have az:=za Q.below;have a2:=za Q.at;obtain⟨g1,c1,aW,M,_⟩:=Q;rw[ai.o]at M;subst M;have ah:=za (C.o.size w1 az.o);clear p;go_wp2_with fail
 refine ah.o.mono ?_;rintro e w2 ⟨rfl,R⟩;have aG:=za (zf az.o R);have ay:=za (wh.below a2.o R);clear R ah a2;go_wp2_with fail
 refine (fy k (by omega) w2).mono ?_;rintro e w3 ⟨v3,rfl,z⟩;have aK:=za (zf aG.o z.below);have ag:=za (wh.below ay.o z.below);have a7:=za z.at;clear z ay;go_wp2_with fail
 refine (V1 _ _ (N 0) (rB k) w3 ag.o a7.o (by rw[av.o]) (by rw[ai.o];omega)).mono ?_;rw[show eqB (N 0) (rB k)=true by unfold eqB;rw[av.o];simp];rintro e w4 ⟨rfl,a9⟩;have a0:=za (zf aK.o a9);have aq:=za (C.o.size w4 a0.o);clear a9 ag a7;go_wp2_with fail
 refine aq.o.mono ?_;rintro e w5 ⟨rfl,a6⟩;have a5:=za (zf a0.o a6);have S:=za (XN (C.o.below a5.o) (by omega) f y.o.load);rw[<-HA.o]at S;have d1:decide ((k:Int)<64)=false:=zz (by omega);have d2:¬((k:Int)<64):=by omega
 have d3:decide (k<64)=false:=zz (by omega);clear a6 aq;go_wp2_with fail
 refine S.o.mono ?_;rintro e n ⟨rfl,aw⟩;have aE:=za (zf a5.o aw);clear aw S d1 d2 d3;have ao:Hid (((n.alloc (.cells Z0 106)).setRow n A).heap[n.heap.size]?=some (.cells A 106)):=yh _ _ _ _ _ _ (zH);have aL:Hid (Below n n ((n.alloc (.cells Z0 106)).setRow n A)):=xI (zB.alloc zL _) zL _
 go_upto_region 7 with (first
  | (refine oC rfl 106 rfl Z0 HZ.o ?_)
  | (refine yG rfl 106 (.tmp 5) (.tmp 39) rfl n A rfl rfl 106 Z0 (zH) (by rw[Z.o];exact forI) (by rw[aS.o,Z.o]) aB.o ?_))
 generalize (n.alloc (.cells Z0 106)).setRow n A=v at *
 have B:Hid (MapL prog 3 (v.alloc (.map #[] 0)) v.heap.size []):=tH v;have ar:Hid (Below v v (v.alloc (.map #[] 0))):=zB.alloc zL _;have a4:=za (zf aL.o ar.o);have D:=za (zf aE.o a4.o);have U:=za (wy ar.o ao.o);have p:=za (C.o.read (v.alloc (.map #[] 0)) D.o 4 (by omega));have aC:=za (C.o.len 4 (by omega));have aU:=za (C.o.byte 4 (by omega));have aH:=za y.o.quota;go_wp2_with fail
 obtain⟨mb,aD⟩:=zD v.heap.size;rw[aD.o]at B ⊢;obtain⟨fb,aQ⟩:=zD n.heap.size;rw[aQ.o]at U ⊢;generalize v.alloc (.map #[] 0)=w8 at *
 refine p.o.mono ?_;rintro e w9 ⟨v9,rfl,s⟩;have aF:=za (zf D.o s.below);have au:=za s.at;have aa:=za (B.o.of_block (s.below.block _ B.o.lt));have ap:=za (wy s.below U.o);clear s p B U ao;go_wp2_with fail
 refine (Iq v9 (N 4) w9 au.o aU.o (by rw[aC.o];omega)).mono ?_;rintro e bl (⟨_,u,rfl,_,m⟩|⟨aA,_⟩);case inr=>exact zY aH.o aA
 have J:=za (zf aF.o m);have K:=za (aa.o.of_block (m.block _ aa.o.lt));have G:=za (wy m ap.o);clear m aa ap au;go_wp2;go_loopw [61] (fun i wr=>∃t:Nat,t<=4/\i=.int .i64 t/\Hid (Below w w wr)/\Hid (MapL prog 3 wr mb [])/\Hid (wr.heap[fb]?=some (.cells A 106))) (fun i _=>4-(intOf i).toNat);case atStart=>exact⟨0,by omega,rfl,J,K,G⟩
 case round=>
  clear J K G;obtain⟨t,ht,rfl,HB,O,HF⟩:=hrel;by_cases X:t<4
  .have ak:(t:Int)<4:=(by omega);have bk:0<=(t:Int):=(by omega);have Y:=za (fun W=>aT.o t W X);go_wp2_with (refine yS rfl 106 (.tmp 5) rfl fb rfl 106 A (0,0) _ HF.o forT rfl (by rw[Z.o];exact forI) ?_)
   refine (Y.o wr).mono ?_;cases V:vO f t with
   | true=>
    rintro e aJ ⟨rfl,a⟩;have d:=za (zf HB.o a);have g:=za (O.o.of_block (a.block _ O.o.lt));have b:=za (wy a HF.o);obtain⟨L,hL⟩:=y.o.tree t X V;obtain⟨T,HT⟩:=zA (encT f t);have aP:Hid (T.size=48):=(by rw[HT.o];exact oY _ _);have aI:Hid (∀j,j<T.size->A[t*48+j]?=T[j]?):=(by rw[HT.o,HA.o];exact Uq f t X);have P:=za (TO (C.o.below d.o) hk al f t mb L hL);rw[<-HT.o]at P;clear V a O HF HB hL Y;go_wp2_with (refine pZ (by kernel_rfl) 104 (.tmp 69) rfl fb (t*48) rfl 106 A T (0,0) _ b.o aI.o vy rfl (by rw[aP.o];exact qT) ?_)
    refine P.o.mono ?_;rintro e bo ⟨rfl,l⟩;have ax:=za (zf d.o l);have a3:=za (g.o.of_block (l.block _ g.o.lt));have a1:=za (wy l b.o);clear l g b d P;go_wp2;go_roundw;case rel=>exact⟨t+1,by omega,by go_num,ax,a3,a1⟩
    case measure=>simp[intOf];omega
   | false=>
    rintro e aJ ⟨rfl,a⟩;have d:=za (zf HB.o a);have g:=za (O.o.of_block (a.block _ O.o.lt));have b:=za (wy a HF.o);clear V a O HF HB Y;go_wp2;go_roundw;case rel=>exact⟨t+1,by omega,by go_num,d,g,b⟩
    case measure=>simp[intOf];omega
  .obtain rfl:t=4:=(by omega);have ak:¬((4:Nat):Int)<4:=(by omega);go_wp2_with (first
    | (at_range;refine U7 _ rfl _ _ rfl 3 4 intT pH mb [] rfl O.o ?_;intro aM E F an))
   have ae:=za (xB HB.o F HB.o.size (fun q hq=>by cases hq));have am:Hid (qs prog 3 aM mb wr.heap.size [] [] 0):=E;clear E F an;go_loopw [13] (fun o wq=>o=.slice none 0 0/\Hid (Below w w wq)/\Hid (qs prog 3 wq mb wr.heap.size [] [] 0)) (fun _ _=>0);case atStart=>exact⟨rfl,ae,am⟩
   case round=>
    obtain⟨rfl,H,aj⟩:=hrel;go_wp2_with (at_next;refine UZ _ rfl _ rfl 3 intT mb _ [] [] 0 rfl aj.o (fun _=>?_) (fun x c w' aZ hx hm=>zY hm (by simp)))
    refine (Xs (.slice none 0 0) [] 0 wr (xd _ _ _ _) (by simp)).mono ?_;rintro e bf ⟨rfl,_,I⟩;have af:=za (xB H.o I H.o.size (fun q hq=>by cases hq));clear I;go_wp2;go_ret;exact⟨rfl,af.o⟩
theorem Lx (h:RdAt w r N k) (c:k<=256) (a:64<=k) (f) (b:lT N f k):
 Calls prog 60 #[.iface r.T r.u] w (fun e w'=>e=.returned (.slice none 0 0)/\Below w w w'):=of_raw h c a f b _ rfl
structure Fs where
 dk:Dk
 k:Nat
 sq:Int
 fo:Fo
 rows:List (Int×Int)
 nodes:List Pn
 todo:List (Int×List Int)
 held:List (Int×Int)
def logR (a:Addr) (sq:Int):Array Value:=#[.pointer (some a),.int .i64 5,.int .i64 32,.int .u32 sq]
def lR (d lg:Value) (fo:Fo) (rv nv tv hv:Value) (i:Nat):Value:=
 if i=0 then d else if i=1 then lg else if i<194 then uU fo ((i-2) / 48) ((i-2)%48) else if i=194 then rv else if i=195 then nv else if i=196 then tv else hv
def fsR (d lg:Value) (fo:Fo) (rv nv tv hv:Value):Array Value:=Array.ofFn (n:=198) fun i=>lR d lg fo rv nv tv hv i.val
theorem jG (d lg) (fo) (rv nv tv hv):(fsR d lg fo rv nv tv hv).size=198:=by simp[fsR]
theorem lV (d lg) (fo) (rv nv tv hv) (i) (h:i<198):(fsR d lg fo rv nv tv hv)[i]?=some (lR d lg fo rv nv tv hv i):=by simp[fsR,h]
theorem hQ (d lg) (fo) (rv nv tv hv):∀j,j<(encF fo).size->(fsR d lg fo rv nv tv hv)[2+j]?=(encF fo)[j]? :=fun j a=>by rw[uj]at a;rw[lV _ _ _ _ _ _ _ _ (by omega)];have:=rk fo (j / 48) (j%48) (by omega) (by omega);rw[show j / 48*48+j%48=j by omega]at this;rw[this];unfold lR;rw[zb (by omega),zb (by omega),ze (by omega),show 2+j-2=j by omega]
def tu (w:World) (B:Nat) (pl:List (Int×Value)) (l:List (Int×List Int)):Prop:=
 pl.map (·.1)=l.map (·.1)/\∀i (h) (h':i<l.length),sJ w B pl[i].2 l[i].2
structure ou (w:World) (F:Nat->Prop) (pl:List (Int×Value)) (l:List (Int×List Int)):Prop where
 sec:tu w 0 pl l
 out:∀y∈pl,∀g,y.2.ownBlock=some g->¬F g
def kI (l:List (Int×Int)):List (Int×Value):=l.map fun y=>(y.1,.int .i64 y.2)
structure FsAt (w:World) (gf:Nat) (s:Fs) (F:Nat->Prop) (a:Addr):Prop where
 ex:∃gl rv nv bt bh E tl FD,
  w.heap[gf]?=some (.cells (fsR (.pointer (some a)) (gl,()) s.fo rv nv (.map (some bt)) (.map (some bh))) 111) /\
  uS w (.pointer (some a)) s.dk s.k FD/\(∀i,FD i->F i)/\¬FD gl/\w.heap[gl]?=some (.cells (logR a s.sq) 198)/\F gl /\
  Out F w (fun w'=>wh w' rv 2 s.rows.length (wY s.rows)) /\
  Out F w (fun w'=>wh w' nv 8 E.length (uG E))/\tZ F w E s.nodes /\
  MapL prog 3 w bt tl/\ou w F tl s.todo/\F bt/\bt≠bh/\¬FD bt /\
  MapL prog 3 w bh (kI s.held)/\F bh/\¬FD bh
 self:F gf
 len:s.nodes.length=32
 fin:∀i,F i->i<w.heap.size
 hold:s.held.length<=1000/\∀y∈s.held,0<=y.2/\y.2<=1000000
 k0:64<=s.k
 k1:s.k<=256
 rows:s.rows.length<=20
theorem Z9 (h:sJ w B v D) (l:∀(g) (c),B<=g->w.heap[g]?=some (.cells c 5)->w'.heap[g]?=w.heap[g]?):sJ w' B v D:=by obtain⟨g,b,a,j,i,k,d,e,f⟩:=h;exact⟨g,b,a,j,i,k,d,(l g _ d e).trans e,f⟩
theorem sJ.at (h:sJ w B v D):vQ w v D:=by obtain⟨g,d,a,rfl,c,i,f,e,b⟩:=h;exact pD c e b
theorem sJ.mono {B':Nat} (h:sJ w B v D) (k:B'<=B):sJ w B' v D:=by obtain⟨g,b,a,e,d,i,j,f,c⟩:=h;exact⟨g,b,a,e,d,i,by omega,f,c⟩
theorem tu.keep (h:tu w B pl l) (d:∀(g) (c),B<=g->w.heap[g]?=some (.cells c 5)->w'.heap[g]?=w.heap[g]?):tu w' B pl l:=
 ⟨h.1,fun i a b=>Z9 (h.2 i a b) d⟩
theorem tu.len (h:tu w B pl l):pl.length=l.length:=by have:=zV List.length h.1;simpa using this
theorem tu.nil (w) (B):tu w B [] []:=⟨rfl,fun i h=>by simp at h⟩
theorem tu.tail (h:tu w B (x::pl) (y::l)):x.1=y.1/\sJ w B x.2 y.2/\tu w B pl l:=by have c:=h.1;simp only[yF,tX]at c;refine⟨c.1,h.2 0 (by simp) (by simp),c.2,fun i a b=>?_⟩;have:=h.2 (i+1) (by simpa using a) (by simpa using b);simpa using this
theorem tu.cons (d:x.1=y.1) (e:sJ w B x.2 y.2) (c:tu w B pl l):tu w B (x::pl) (y::l):=by
 refine⟨by simp[d,c.1],fun i a b=>?_⟩;cases i with
 | zero=>exact e
 | succ i=>simpa using c.2 i (by simpa using a) (by simpa using b)
theorem tu.get {w:World} {B:Nat} {k:Int}:∀{pl} {l},tu w B pl l->(getZ pl k=none/\getZ l k=none)\/∃v D,getZ pl k=some v/\getZ l k=some D/\sJ w B v D
 | [],[],_=>zr ⟨rfl,rfl⟩
 | [],y::l,h=>by have:=h.len;simp at this
 | x::pl,[],h=>by have:=h.len;simp at this
 | x::pl,y::l,h=>by
  obtain⟨b,c,d⟩:=h.tail;unfold getZ;by_cases a:x.1=k
  .rw[ze a,ze (b▸a)];exact zu ⟨_,_,rfl,rfl,c⟩
  .rw[zb a,zb (b▸a)];exact tu.get d
theorem tu.put {w:World} {B:Nat} {k:Int} {v:Value} {D:List Int} (d:sJ w B v D):∀{pl} {l},tu w B pl l->tu w B (putZ pl k v) (putZ l k D)
 | [],[],_=>tu.cons rfl d (tu.nil _ _)
 | [],y::l,h=>by have:=h.len;simp at this
 | x::pl,[],h=>by have:=h.len;simp at this
 | x::pl,y::l,h=>by
  obtain⟨a,c,b⟩:=h.tail;unfold putZ;rw[<-a];split
  .exact tu.cons rfl d (tu.cons a c b)
  .split
   .exact tu.cons rfl d b
   .exact tu.cons a c (tu.put d b)
theorem ou.len (h:ou w F pl l):pl.length=l.length:=h.sec.len
theorem ou.keep {F':Nat->Prop} (h:ou w F pl l) (v:∀(g) (c),¬F g->w.heap[g]?=some (.cells c 5)->w'.heap[g]?=w.heap[g]? /\¬F' g):ou w' F' pl l:=by
 have o:∀i (b:i<pl.length),∃g c,pl[i].2.ownBlock=some g/\w.heap[g]?=some (.cells c 5):=fun i b=>by obtain⟨g,e,d,a,_,_,_,j,_⟩:=h.sec.2 i b (by rw[<-h.len];exact b);exact⟨g,d,by rw[a];rfl,j⟩
 refine⟨⟨h.sec.1,fun i b n=>?_⟩,fun y m g f t=>?_⟩
 .have q:=h.sec.2 i b n;obtain⟨g,e,d,a,k,r,s,j,p⟩:=id q;exact⟨g,e,d,a,k,r,s,(v g _ (h.out _ (zx b) g (by rw[a];rfl)) j).1.trans j,p⟩
 .obtain⟨i,b,rfl⟩:=va m;obtain⟨u,c,a,k⟩:=o i b;rw[f]at a;injection a with a;subst a;exact (v g c (h.out _ m g f) k).2 t
theorem WV {l:List (Int×Int)} {k:Int}:(getZ (kI l) k).getD (.int .i64 0)=.int .i64 ((getZ l k).getD 0):=by
 induction l with
 | nil=>rfl
 | cons y l a=>
  show (getZ ((y.1,Value.int .i64 y.2)::kI l) k).getD _=_;unfold getZ;split
  .rfl
  .exact a
theorem FsAt.below {gf:Nat} {s:Fs} {a:Addr} (h:FsAt w gf s F a) (R:Below w w w'):FsAt w' gf s F a:=by
 obtain⟨⟨n,z,C,Q,L,E,o,O,u,p,G,t,x,J,v,D,K,b,l,k,e,f,d,m,j⟩,M,N,y,B,A,I,q⟩:=h;exact⟨⟨n,z,C,Q,L,E,o,O,wy R u,p.below R,G,t,wy R x,J,v.below R,D.below R,K.keep (yQ.of_below R),b.of_block (R.block _ b.lt),l.keep (fun g c r P=>⟨R.block g (xR P),r⟩),k,e,f,d.of_block (R.block _ d.lt),m,j⟩,
  M,N,fun i H=>zo (y i H) R.size,B,A,I,q⟩
