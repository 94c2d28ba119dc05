import Derived.Test.YtakfhadmokoikaaGreatDoorKA24
import Derived.Test.YtakfhadmokoikaaGreatDoorKA26
import Derived.Test.YtakfhadmokoikaaGreatDoorKA28
import Derived.Test.YtakfhadmokoikaaGreatDoorKA29
set_option maxHeartbeats 0
set_option linter.all false
set_option maxRecDepth 100000
namespace Go.Proofs.YtakfhadmokoikaaGreatDoor
open Go.Proofs.Tryz Go.RowKit
variable {B k:Nat} {D:List Int} {F:Nat->Prop} {N:Nat->List Int} {l:List (Int×List Int)} {pl:List (Int×Value)} {r:Rdr} {v:Value} {w w':World} {x:Int×Value} {y:Int×List Int}
theorem U3 (W:World):(Instr.makeSlice 224 (.int .i64 32) (.int .i64 32)).run prog W=.ok (.slice (some ⟨W.heap.size,0,none⟩) 32 32) (W.alloc (.cells (List.replicate 32 (Value.slice none 0 0)).toArray 184)):=by kernel_rfl
theorem MV (h:RdAt w r N k) {p:Int} (b:0<=p) (c:p<(k:Int)):∀x∈tE N p,0<=x/\x<=255:=fun x a=>by
 unfold tE at a;split at a
 .rw[uR]at a;omega
 .exact h.byte _ (by omega) x a
theorem MR (h:RdAt w r N k) {P:List Int} (c:ng P k) (s:Int):∀x∈tc N P s,0<=x/\x<=255:=fun x a=>by unfold tc at a;obtain⟨p,b,a⟩:=wU.1 (xd a);exact MV h (c p b).1 (c p b).2 x a
def pV (N:Nat->List Int) (L:List Pn):List Int:=tc N (L.getD 0 zN).P (L.getD 0 zN).s
def oK (X:List En) (i:Nat):Int:=(qy X).getD i 0+if i=0 then 1 else 0
structure Za (N:Nat->List Int) (f:Fo) (t k:Nat) (L:List Pn):Prop where
 tree:jh N (f.nd t) k
 eq:sQ N (f.nd t) 32=L
 own:j5 (f.nd t) L (f.hs t) k
 size:0<=(L.getD 0 zN).s/\(L.getD 0 zN).s<=512
 list:sI (pV N L)=true
 root:Xw L (outD (pV N L))
 up:(L.getD 0 zN).up=1
 names:∀i,i<32->(L.getD i zN).l=oK (outD (pV N L)) i/\((L.getD i zN).k=0->oK (outD (pV N L)) i<=0)
section
variable {P : Program}
theorem Lx {ops:Array Oper} {Q:Act->Prop} {rest:List Oper} {o:Oper} {a:Act} {C:World->Prop} (x:Operand) (i:String) (j:o.op=.call {callee:=.invoke x i,args:=#[],argTypes:=#[]}) (k:Region.wanted o (yielded ops a.tmps)=true) (f:FuncId) (args:Array Value)
 (g:∀w,(execOp a.eval o).run P w=.ok (.enter f args) w) (v:Value)
 (l:∀w' w'',C w'->Below w' w' w''->C w'') (m:∀w',C w'->Calls P f args w' fun e w''=>e=.returned v/\Below w' w' w'') (h:wpQuiet P ops C Q rest (a.put o.dst v)):wpQuiet P ops C Q (o::rest) a:=
 tm k fun _ c=>⟨v,fun w' b=>by have _:=j;unfold Oper.quietAt;rw[g];exact⟨rfl,(m w' b).mono fun _ _ ⟨g,d⟩=>⟨g,l _ _ b d⟩⟩,c _ h⟩
end
theorem UU (h:RdAt w r N k) (hk:k<=256) (au:64<=k) (f:Fo) (t bm:Nat) (L:List Pn) (aa:Za N f t k L) (A:Array Value) (HA:Hid (A=encT f t)):
 Calls prog 108 #[.iface r.T r.u,.agg A,.map (some bm)] w
  (fun e w'=>e=.returned (.tuple #[])/\Below w w w'):=by
 have q4:=h.n2;have q5:=h.m2;have q6:=h.c2;have HR:=Lib.hid h;have B:=Lib.hid aa;have bU:Hid (A.size=48):=by rw[HA.o];exact oV f t
 have bK:Hid (∀W:World,Below w w W->Calls prog 53 #[.iface r.T r.u,.agg A] W (fun e w'=>∃v,e=.returned (.tuple #[v,()])/\kL W v L w')):=fun W M=>by have:=YI (h.below M) f t aa.tree;rw[aa.eq]at this;rw[HA.o];exact this
 clear h aa;go_enter func108,ntmps108;go_wp2_with (refine yQ rfl 93 (.tmp 4) rfl w rfl 93 A (0,0) _ (zH) vF rfl (by rw[bU.o];exact qR) ?_)
 have bL:Hid (Below w w (w.alloc (.cells A 93))):=zB.alloc zL _;have bM:Hid ((w.alloc (.cells A 93)).heap[w.heap.size]?=some (.cells A 93)):=zH;generalize w.alloc (.cells A 93)=w1 at *
 refine (bK.o w1 bL.o).mono ?_;rintro e w2 ⟨v,rfl,E,hO,hE,bd⟩;have HO:=Lib.hid hO;have HE:=Lib.hid hE;have b0:=Lib.hid (Below.step bL.o bd);have co:=Lib.hid (we bd bM.o);have aj:Hid (L.length=32):=B.o.root.len;have a7:Hid (E.length=32):=by show _=_;rw[HE.o.1];exact aj.o
 obtain⟨p,cp,bs,_⟩:=tR hO;rw[aj.o]at bs;subst bs;have bD:Hid (xT w2 (.slice p 32 cp) 8 E.length (uu E)):=by have:=xT.of_owns hO;rw[<-HE.o.1]at this;exact this
 have c9:Hid (∀W:World,Below w2 w2 W->Calls prog 147 #[k,.agg A,.slice p 32 cp,.map (some bm)] W (fun e w'=>e=.returned (.bool true)/\Below W W w')):=fun W M=>by rw[HA.o];exact Ng W f t k bm hk _ E L _ (xT.below bD.o M) (HE.o.keep (yK.of_below M)) (by rw[aj.o];omega) B.o.own
 clear hO hE bd bM bK;go_wp2_with fail
 refine wp_region_quiet_below (by kernel_rfl) (by kernel_rfl) ?_
 repeat (first
  | go_big_quiet_skip
  | (refine Lx (.tmp 26) "Size" rfl rfl r.fs #[r.rs] (fun W => by simp [execOp, resolve, invoke, callMethod, go_sem, q4, q5, q6]) (.int .i64 (k : Int)) (fun _ _ => qk) (fun w' hw => HR.o.size w' (Below.step b0.o (sL hw))) ?_; simp only [Act.put, zM, yj, yh])
  | (refine IQ rfl 93 (.tmp 4) rfl w rfl 93 A (0,0) _ (fun _ hw=>fU hw co.o) vF rfl (by rw[bU.o];exact qR) ?_;simp only[Act.put,zM,yj,yh])
  | (refine qD 147 #[.tmp 27,.tmp 28,.tmp 29,.tmp 30] #[3,93,97,148] rfl rfl (fun _ _=>by kernel_rfl) #[k,.agg A,.slice p 32 cp,.map (some bm)] (by kernel_rfl) (.bool true) (fun _ _=>qk) (fun w' hw=>c9.o w' (sL hw)) ?_;simp only[Act.put,zM,yj,yh])
  | (go_big_quiet_want;go_big_quiet_op;go_big_quiet_on))
 refine vq ?_;intro V b8;have a9:=sL b8;have bB:=Lib.hid (Below.step b0.o a9);have bo:=Lib.hid (xT.below bD.o a9);have aB:=Lib.hid (HE.o.keep (yK.of_below a9));clear b8 a9;have cl:=U3;obtain⟨ZE,aZ⟩:=zD ((List.replicate 32 (Value.slice none 0 0)).toArray);rw[aZ.o]at cl;have cM:Hid (ZE.size=32):=by show _=_;rw[<-aZ.o];rfl
 obtain⟨p2,dg,bA,HP⟩:=jC bo.o;rw[a7.o]at bA HP;injection bA with e1 _ e2;subst e1 e2;obtain⟨g,o,rfl,m,hc⟩:=HP.o (by omega);have HC:=Lib.hid hc;clear hc HP;have HD:=Lib.hid B.o.list;obtain⟨X,HX⟩:=zD (outD (pV N L));have ah:=Lib.hid B.o.root;have bx:=Lib.hid B.o.names;rw[HX.o]at ah bx;go_wp2;have cB:Hid (Below V V (V.alloc (.cells ZE 184))):=zB.alloc zL _;have bw:Hid ((V.alloc (.cells ZE 184)).heap[V.heap.size]?=some (.cells ZE 184)):=zH;obtain⟨l,aS⟩:=zD V.heap.size;rw[aS.o]at bw ⊢;generalize V.alloc (.cells ZE 184)=w4 at *
 go_loopw [9,38] (fun a i wr=>∃j:Nat,j<=32/\i=.int .i64 j/\Hid (Below V V wr)/\((j=0/\a=.slice none 0 0/\Hid (wr.heap[l]?=some (.cells ZE 184)))\/(0<j/\Hid (rB wr a X)/\∃xv,Hid (wr.cell? (l,0)=some xv)/\Hid (rB wr xv X)))) (fun _ i _=>32-(intOf i).toNat)
 case atStart=>exact⟨0,by omega,rfl,cB,zt ⟨rfl,rfl,bw⟩⟩
 case round=>
  obtain⟨j,hj,rfl,K,bz⟩:=hrel;by_cases R:j<32
  .have am:j<E.length:=(by rw[a7.o];exact R);have F:j<L.length:=(by rw[aj.o];exact R);obtain⟨H,e1,e2,e3,e4,e5,J,e7⟩:=mG HC.o j am;have d:=Lib.hid ((aB.o.2 j am F).keep (yK.of_below K.o));have C:=ah.o.kd j F;rw[<-d.o.1]at C;have bp:=Lib.hid (B.o.own.few _ (zz F));have b6:=Lib.hid (B.o.own.pts _ (zz F));have bf:Hid (L[j]=L.getD j zN):=(by show _=_;rw[zh,zf F];rfl);generalize L[j]=Y at d bp b6 bf;generalize E[j]=y at H e1 e2 e3 e4 e5 J e7 C d;obtain⟨O,ym,yu,yg,ys,S,z,yq,yn,yc⟩:=y;have H:=(K.o.cell (p:=⟨g,o+j*8,none⟩) m).trans H;have e1:=(K.o.cell (p:=⟨g,o+j*8+1,none⟩) m).trans e1;have e2:=(K.o.cell (p:=⟨g,o+j*8+2,none⟩) m).trans e2;have e3:=(K.o.cell (p:=⟨g,o+j*8+3,none⟩) m).trans e3;have e4:=(K.o.cell (p:=⟨g,o+j*8+4,none⟩) m).trans e4;have e5:=(K.o.cell (p:=⟨g,o+j*8+5,none⟩) m).trans e5;have J:=(K.o.cell (p:=⟨g,o+j*8+6,none⟩) m).trans J;have e7:=(K.o.cell (p:=⟨g,o+j*8+7,none⟩) m).trans e7;dsimp only at H e1 e2 e3 e4 e5 J e7 C;have aw:(j:Int)<32:=(by omega);have cq:g<wr.heap.size:=zm m K.o.size;have di:¬g=wr.heap.size:=(by omega);have n:Hid (Below wr wr (wr.alloc (.cells #[O,ym,yu,yg,ys,S,z,(yq,yn,yc)] 59))):=zB.alloc zL _;rcases bz with⟨aW,rfl,cE⟩|⟨aW,bc,xv,ab,aE⟩
   .subst aW;have C:O=2:=C.2 rfl;subst C;simp only[um,vA]at H e1 e2 e3 e4 e5 J e7;obtain⟨f0,f1,f2,f3,f4,f5,f6,bq⟩:=d.o;dsimp only at f0 f1 f2 f3 f4 f5 f6;have aV:=Lib.hid B.o.size;rw[<-bf.o,<-f4]at aV;have b9:Hid (ng Y.P k):=fun q hq=>(by rcases b6.o q hq with h0|h0<;>omega);have ci:=Lib.hid (HR.o.below (Below.step bB.o (Below.step K.o n.o)));have az:=Lib.hid (Ks ci.o 2 ym yu yg ys S z (yq,yn,yc) Y.P (xT.below bq.now n.o) bp.o b9.o aV.o.1 aV.o.2);have bl:Hid (pV N L=tc N Y.P ys):=(by show _=_;unfold pV;rw[<-bf.o,f4]);rw[<-bl.o]at az;obtain⟨D,aG⟩:=zD (pV N L);rw[aG.o]at az;have ck:Hid (∀x∈D,0<=x/\x<=255):=(by show _;rw[<-aG.o,bl.o];exact MR HR.o b9.o ys);have bn:Hid (sI D=true):=(by show _;rw[<-aG.o];exact HD.o);have cf:Hid (outD D=X):=(by show _=_;rw[<-aG.o];exact HX.o);have bj:Hid (D.length<=512):=((ny D).1 bn.o).2.1;clear f0 f1 f2 f3 f4 f5 f6 bq;go_wp2_with fail
    refine az.o.mono ?_;rintro e w5 ⟨v5,rfl,aT,G⟩;have cv:Hid (tQ w5 v5 D):=⟨xT.of_owns aT,lL aT⟩;have aF:=Lib.hid (Below.step n.o G);clear aT G az;go_wp2_with fail
    refine (WD v5 D w5 cv.o ck.o (by have:=bj.o;omega)).mono ?_;rintro e I (⟨_,v6,rfl,bg,bC⟩|⟨bN,_⟩);case inr=>exact yb bn.o (by rw[bN];simp)
    rw[cf.o]at bg;have bG:=Lib.hid bg;have ae:=Lib.hid (Below.step aF.o bC);have ak:=Lib.hid (we ae.o cE.o);clear bg bC;have z0:I.cell? (l,0)=ZE[0]? :=zC ak.o;have z1:ZE[0]?=some (.slice none 0 0):=(by rw[<-aZ.o];rfl);rw[z1]at z0;have fz:I.frozen? (l,0)=false:=zF ak.o;clear z1;obtain⟨_,⟨aX,cI⟩|⟨g6,c6,cQ,aX,ds,bb,cw,c0,cm,aU⟩⟩:=id bG.o
    .subst aX;have bR:X=[]:=yG.1 cI;go_wp2;go_roundw;case rel=>
      refine⟨1,by omega,rfl,(Below.step K.o ae.o).setCell (by show V.heap.size<=l;rw[aS.o];exact zL) _,zu ⟨by omega,?_,.slice none 0 0,?_,?_⟩⟩
      .rw[bR];exact⟨rfl,zt ⟨rfl,none,0,rfl⟩⟩
      .exact sO _ _ _ z0
      .rw[bR];exact⟨rfl,zt ⟨rfl,none,0,rfl⟩⟩
     case measure=>simp[intOf]
    .subst aX;have bI:Hid (rB I (g6,0,X.length,c6) X):=xT.of_owns bG.o;obtain⟨nX,a8⟩:=zD X.length;rw[a8.o]at bI aU ⊢;have dh:nX<=32:=(by rw[<-a8.o];exact ah.o.few);have cC:=Lib.hid bb;have aP:Hid ((ents X).length=nX*2):=(by show _=_;rw[lR,a8.o]);have cD:=Lib.hid (LQ X);have ct:Hid (∀(q:Nat) (u:Value),(ents X)[q]?=some u->I.cell? ((⟨g6,0,none⟩:Addr).add q)=some u):=fun q u hq=>(by have bH:(⟨g6,0,none⟩:Addr).add q=⟨g6,q,none⟩:=(by unfold Addr.add;split<;>simp_all);have bQ:=(zy.1 hq).1;rw[aP.o]at bQ;rw[bH,zC bb,<-zP];rw[<-aU,zI,ze bQ]at hq;exact hq);obtain⟨i0,ai,bv,bT,bF⟩:=xp Wq;have cH:=Lib.hid ai;have cr:=Lib.hid bv;have cn:=Lib.hid bT;have cz:=Lib.hid bF;clear ai bv bT bF bb aU c0 cm cw;go_wp2_with (at_builtin;refine yH _ rfl _ _ 184 rfl I.heap.size 188 i0 (.agg #[.string {data:=#[]},()]) 2 24 oM cH.o cr.o cn.o cz.o rfl (by decide) _ _ _ rfl (yW _ _ _ _) ⟨g6,0,none⟩ nX c6 (ents X) rfl aP.o ct.o cD.o (by unfold maxLen;omega) (by omega) zL ?_;intro v7 w7 av aq _;have U:Hid (Below I I w7):=zB.grown aq zL (fun q hq=>by cases hq);have cA:=Lib.hid (we U.o ak.o);have z7:w7.cell? (l,0)=some (.slice none 0 0):=(U.o.cell (p:=⟨l,0,none⟩) (xL ak.o)).trans z0;have dy:w7.frozen? (l,0)=false:=zF cA.o)
     have c5:Hid (rB w7 v7 X):=(by have:=xT.of_owns av;rw[yL,xj,<-a8.o]at this;exact this);have c4:=Lib.hid (xT.below bI.o U.o);have cy:Hid (∀b,v7.ownBlock=some b->b≠l):=fun b M hc=>(by have h1:=(av.lt b M).1;have h2:=xL ak.o;omega);have cu:Hid (g6≠l):=tj cC.o ak.o (by decide);clear z0 fz av aq;go_roundw;case rel=>
      have br:∀b,b≠l->(w7.setCell (l,0) (g6,0,nX,c6)).heap[b]?=w7.heap[b]? :=fun b M=>yC w7 _ _ b M;refine⟨1,by omega,rfl,(Below.step K.o (Below.step ae.o U.o)).setCell (by show V.heap.size<=l;rw[aS.o];exact zL) _,zu ⟨by omega,Zg c5.o (fun b M _=>br b (cy.o b M)),_,sO _ _ _ z7,Zg c4.o (fun b M _=>br b ?_)⟩⟩;injection M with M;rw[<-M];exact cu.o
     case measure=>simp[intOf]
   .have b2:(O==2)=false:=(by have:¬O=2:=fun hc=>(by have:=C.1 hc;omega);simpa using this);clear C;go_wp2;go_roundw;case rel=>exact⟨j+1,by omega,by go_num,Below.step K.o n.o,zu ⟨by omega,xT.below bc.o n.o,xv,(n.o.cell (p:=⟨l,0,none⟩) (zG ab.o)).trans ab.o,xT.below aE.o n.o⟩⟩
    case measure=>simp[intOf];omega
  .obtain rfl:j=32:=(by omega);have aw:¬((32:Nat):Int)<32:=(by omega);rcases bz with⟨aW,_⟩|⟨_,bc,xv,ab,aE⟩
   .omega
   have cP:X.length<=32:=ah.o.few;go_wp2_with fail
   refine (Pv _ X _ bc.o (by omega)).mono ?_;rintro e w5 ⟨s,rfl,bO,aK,G⟩;have ad:=Lib.hid bO;have aF:=Lib.hid (Below.step K.o G);have aM:=Lib.hid ((G.cell (p:=⟨l,0,none⟩) (zG ab.o)).trans ab.o);have b5:=Lib.hid (xT.below aE.o G);have bt:l≠s:=(by have:=zG ab.o;show l≠s;have h2:l<wr.heap.size:=this;omega);have b7:V.heap.size<=s:=zr K.o.size aK;have dr:Hid (∀b,xv.ownBlock=some b->b<wr.heap.size->b≠s):=fun b _ M hc=>(by omega);obtain⟨NM,Z⟩:=zD (qy X);have db:NM.length=32:=(by rw[<-Z.o];have:=(V3 X X.length zL).1;rwa [xN]at this);have aI:∀i,0<=NM.getD i 0/\NM.getD i 0<=32:=fun i=>(by rw[<-Z.o];have:=(V3 X X.length zL).2 i;rw[xN]at this;omega);rw[Z.o]at ad;have n0:w5.cell? (s,0)=some (.int .i64 (NM.getD 0 0)):=(by rw[zC ad.o,<-zP];have:=mt NM 0 (by omega);rw[this,zh,zf (by omega)];rfl);have c3:w5.frozen? (s,0)=false:=zF ad.o;have i1:IntKind.i64.wrap (NM.getD 0 0+1)=NM.getD 0 0+1:=zQ _ (by have:=aI 0;omega);obtain⟨Q,bP⟩:=zD (NM.getD 0 0);rw[bP.o]at n0 i1;have ch:Hid (∀i,i<32->(w5.setCell (s,0) (.int .i64 (Q+1))).cell? ⟨s,i,none⟩=some (.int .i64 (oK X i))):=fun i hi=>by
    unfold oK;rw[Z.o];by_cases ai:i=0
    .subst ai;rw[sO _ _ _ n0,ze rfl,bP.o]
    .rw[uJ _ _ _ _ (by intro hc;injection hc with _ h2;exact ai h2.symm),zb ai,Int.add_zero,zC ad.o,<-zP];have:=mt NM i (by omega);rw[this,zh,zf (by omega)];rfl
   have ae:Hid (Below V V (w5.setCell (s,0) (.int .i64 (Q+1)))):=aF.o.setCell b7 _;have aN:Hid ((w5.setCell (s,0) (.int .i64 (Q+1))).cell? (l,0)=some xv):=(vi (yC w5 _ _ l bt)).trans aM.o;have bJ:Hid (rB (w5.setCell (s,0) (.int .i64 (Q+1))) xv X):=Zg aE.o (fun b _ hl=>(yC w5 _ _ b (by show b≠s;omega)).trans (G.block b hl));have aQ:s<(w5.setCell (s,0) (.int .i64 (Q+1))).heap.size:=(by have:=xL ad.o;simp[World.setCell];exact this);have cR:g<(w5.setCell (s,0) (.int .i64 (Q+1))).heap.size:=zm m ae.o.size;clear bO G aK aI;go_wp2;clear n0 c3 ad aF aM b5;generalize w5.setCell (s,0) (.int .i64 (Q+1))=I at *
   go_loopw [75] (fun i wr=>∃j:Nat,j<=32/\i=.int .i64 j/\Hid (Below I I wr)) (fun i _=>32-(intOf i).toNat)
   case atStart=>exact⟨0,by omega,rfl,zB⟩
   case round=>
    obtain⟨j,hj,rfl,af⟩:=hrel;have c:=Lib.hid (Below.step ae.o af.o);by_cases R:j<32
    .have am:j<E.length:=(by rw[a7.o];exact R);have F:j<L.length:=(by rw[aj.o];exact R);obtain⟨H,e1,e2,e3,e4,e5,J,e7⟩:=mG HC.o j am;have d:=aB.o.2 j am F;have al:=bx.o j R;rw[show L.getD j zN=L[j] by rw[zh,zf F];rfl,<-d.2.2.2.2.2.1,<-d.1]at al;clear d;generalize E[j]=y at H e1 e2 e3 e4 e5 J e7 al;obtain⟨O,ym,yu,yg,ys,S,z,yq,yn,yc⟩:=y;have H:=(c.o.cell (p:=⟨g,o+j*8,none⟩) m).trans H;have e1:=(c.o.cell (p:=⟨g,o+j*8+1,none⟩) m).trans e1;have e2:=(c.o.cell (p:=⟨g,o+j*8+2,none⟩) m).trans e2;have e3:=(c.o.cell (p:=⟨g,o+j*8+3,none⟩) m).trans e3;have e4:=(c.o.cell (p:=⟨g,o+j*8+4,none⟩) m).trans e4;have e5:=(c.o.cell (p:=⟨g,o+j*8+5,none⟩) m).trans e5;have J:=(c.o.cell (p:=⟨g,o+j*8+6,none⟩) m).trans J;have e7:=(c.o.cell (p:=⟨g,o+j*8+7,none⟩) m).trans e7;have en:=(af.o.cell (p:=⟨s,j,none⟩) aQ).trans (ch.o j R);dsimp only at H e1 e2 e3 e4 e5 J e7 al;obtain⟨nm,cg⟩:=zD (oK X j);rw[cg.o]at en al;obtain⟨ce,cs⟩:=al;subst ce;have aw:(j:Int)<32:=(by omega);have cq:g<wr.heap.size:=zm m c.o.size;have da:¬g=wr.heap.size:=(by omega);have bV:s<wr.heap.size:=zm aQ af.o.size;have cN:¬s=wr.heap.size:=(by omega);have n:Hid (Below wr wr (wr.alloc (.cells #[O,ym,yu,yg,ys,S,z,(yq,yn,yc)] 59))):=zB.alloc zL _;have a0:(wr.alloc (.cells #[O,ym,yu,yg,ys,S,z,(yq,yn,yc)] 59)).cell? (wr.heap.size,0)=some (.int .i64 O):=zC (zH);have a5:(wr.alloc (.cells #[O,ym,yu,yg,ys,S,z,(yq,yn,yc)] 59)).cell? (wr.heap.size,5)=some (.int .i64 S):=zC (zH);have an:(wr.alloc (.cells #[O,ym,yu,yg,ys,S,z,(yq,yn,yc)] 59)).cell? (s,j)=some (.int .i64 S):=(n.o.cell (p:=⟨s,j,none⟩) bV).trans en;have aR:Hid (Below I I (wr.alloc (.cells #[O,ym,yu,yg,ys,S,z,(yq,yn,yc)] 59))):=Below.step af.o n.o;have b1:(S != S)=false:=by simp
     go_upto_region 21 with fail
     clear H e1 e2 e3 e4 e5 J e7 en;generalize wr.alloc (.cells #[O,ym,yu,yg,ys,S,z,(yq,yn,yc)] 59)=wn at *
     by_cases aC:O=0
     .have b2:(O==0)=true:=(by simpa using aC);have b3:decide (0<S)=false:=zK (by have:=cs aC;omega);have b4:decide (S > 0)=false:=b3;subst aC
      go_quiet (fail)
      have bk:Hid (Below I I (wn.drewN nq)):=Ud aR.o nq;go_wp2;go_roundw;case rel=>exact⟨j+1,by omega,by go_num,bk⟩
      case measure=>simp[intOf];omega
     .have b2:(O==0)=false:=by simpa using aC
      go_quiet (fail)
      have bk:Hid (Below I I (wn.drewN nq)):=Ud aR.o nq;go_wp2;go_roundw;case rel=>exact⟨j+1,by omega,by go_num,bk⟩
      case measure=>simp[intOf];omega
    .obtain rfl:j=32:=(by omega);have aw:¬((32:Nat):Int)<32:=(by omega);have bu:0<E.length:=(by rw[a7.o];omega);have aY:0<L.length:=(by rw[aj.o];omega);obtain⟨H,_,_,_,_,_,J,_⟩:=mG HC.o 0 bu;have d:=aB.o.2 0 bu aY;have ap:=(ah.o.kd 0 aY).2 rfl;have bh:=B.o.up;rw[show L.getD 0 zN=L[0] by rw[zh,zf aY];rfl,<-d.2.2.2.2.2.2.1]at bh;rw[<-d.1]at ap;rw[ap]at H;rw[bh]at J;have H:=(c.o.cell (p:=⟨g,o+0*8,none⟩) m).trans H;have J:=(c.o.cell (p:=⟨g,o+0*8+6,none⟩) m).trans J;simp only[um,vA]at H J;have bX:=(af.o.cell (p:=⟨l,0,none⟩) (zG aN.o)).trans aN.o;have bS:=Lib.hid (TN wr (.slice (some (g,o)) 32 cp) E L _ (xT.below bo.o c.o) (aB.o.keep (yK.of_below c.o)) X ah.o l 32 bm xv bX (xT.below bJ.o af.o));clear d ap bh bX;go_wp2_with fail
     refine bS.o.mono ?_;rintro e w7 ⟨rfl,bW⟩;have c7:=Lib.hid (Below.step bB.o (Below.step c.o bW));clear bW bS;go_wp2
     go_end0
     exact⟨rfl,c7.o⟩
theorem UV (h:RdAt w r N k) (d:k<=256) (a:64<=k) (f:Fo) (t c:Nat) (L:List Pn) (b:Za N f t k L):
 Calls prog 108 #[.iface r.T r.u,.agg (encT f t),.map (some c)] w (fun e w'=>e=.returned (.tuple #[])/\Below w w w'):=UU h d a f t c L b _ rfl
structure jk (N:Nat->List Int) (f:Fo) (k:Nat):Prop where
 mark:N 0=sV k
 load:ji N f k
 quota:ll (N 4)
 tree:∀t,t<4->vN f t=true->∃L,Za N f t k L
theorem of_raw (h:RdAt w r N k) (hk:k<=256) (al:64<=k) (f:Fo) (ab:jk N f k) (A:Array Value) (HA:Hid (A=encF f)):
 Calls prog 58 #[.iface r.T r.u] w
  (fun e w'=>e=.returned (.slice none 0 0)/\Below w w w'):=by
 have q1:=h.n1;have q2:=h.m1;have q3:=h.c1;have q4:=h.n2;have q5:=h.m2;have q6:=h.c2;have C:=Lib.hid h;have y:=Lib.hid ab;clear h ab;have Z:Hid (A.size=192):=by rw[HA.o];exact uh f
 have aC:Hid (A.all (·.oneCell')=true):=by rw[HA.o];exact nw f
 have aU:Hid (∀(t:Nat) (W:World),t<4->Calls prog 100 #[.agg A,t] W fun e w'=>e=.returned (.bool (vN f t))/\Below W W w'):=fun t W ht=>by rw[HA.o];exact jy f t W ht
 obtain⟨Z0,a9⟩:=zA (encF tA);have HZ:Hid (∀w,(zeroValue 95).run prog w=.ok (.agg Z0) w):=by rw[a9.o];exact forZ
 have aT:Hid (Z0.size=192):=by rw[a9.o];exact uh _
 have bn:=@run_makeMap prog;have av:Hid (N 0=sV k):=y.o.mark;have s:=Lib.hid (C.o.read w zB 0 (by omega));have ai:=Lib.hid (C.o.len 0 (by omega));go_enter func58,ntmps58;go_wp2_with fail
 refine s.o.mono ?_;rintro e w1 ⟨v1,rfl,Q⟩;have a0:=Lib.hid Q.below;have a3:=Lib.hid Q.at;obtain⟨g1,c1,aX,M,_⟩:=Q;rw[ai.o]at M;subst M;have ah:=Lib.hid (C.o.size w1 a0.o);clear s;go_wp2_with fail
 refine ah.o.mono ?_;rintro e w2 ⟨rfl,R⟩;have aI:=Lib.hid (Below.step a0.o R);have ay:=Lib.hid (xT.below a3.o R);clear R ah a3;go_wp2_with fail
 refine (gI k (by omega) w2).mono ?_;rintro e w3 ⟨v3,rfl,z⟩;have aM:=Lib.hid (Below.step aI.o z.below);have ag:=Lib.hid (xT.below ay.o z.below);have a8:=Lib.hid z.at;clear z ay;go_wp2_with fail
 refine (Va _ _ (N 0) (sV k) w3 ag.o a8.o (by rw[av.o]) (by rw[ai.o];omega)).mono ?_;rw[show eqB (N 0) (sV k)=true by unfold eqB;rw[av.o];simp];rintro e w4 ⟨rfl,aA⟩;have a1:=Lib.hid (Below.step aM.o aA);have aq:=Lib.hid (C.o.size w4 a1.o);clear aA ag a8;go_wp2_with fail
 refine aq.o.mono ?_;rintro e w5 ⟨rfl,a7⟩;have a6:=Lib.hid (Below.step a1.o a7);have S:=Lib.hid (Y6 (C.o.below a6.o) (by omega) f y.o.load);rw[<-HA.o]at S;have d1:decide ((k:Int)<64)=false:=zK (by omega);have d2:¬((k:Int)<64):=by omega
 have d3:decide (k<64)=false:=zK (by omega);clear a7 aq;go_wp2_with fail
 refine S.o.mono ?_;rintro e l ⟨rfl,aw⟩;have aF:=Lib.hid (Below.step a6.o aw);clear aw S d1 d2 d3;have ao:Hid (((l.alloc (.cells Z0 95)).setRow l A).heap[l.heap.size]?=some (.cells A 95)):=yi _ _ _ _ _ _ (zH);have aN:Hid (Below l l ((l.alloc (.cells Z0 95)).setRow l A)):=Below.setRow (zB.alloc zL _) zL _
 go_upto_region 7 with (first
  | (refine om rfl 95 rfl Z0 HZ.o ?_)
  | (refine yD rfl 95 (.tmp 5) (.tmp 39) rfl l A rfl rfl 95 Z0 (zH) (by rw[Z.o];exact forI) (by rw[aT.o,Z.o]) aC.o ?_))
 generalize (l.alloc (.cells Z0 95)).setRow l A=p at *
 have B:Hid (MapL prog 3 (p.alloc (.map #[] 0)) p.heap.size []):=MapL.made p;have ar:Hid (Below p p (p.alloc (.map #[] 0))):=zB.alloc zL _;have a5:Hid (Below l l (p.alloc (.map #[] 0))):=Below.step aN.o ar.o;have D:Hid (Below w w (p.alloc (.map #[] 0))):=Below.step aF.o a5.o;have U:Hid ((p.alloc (.map #[] 0)).heap[l.heap.size]?=some (.cells A 95)):=we ar.o ao.o;have s:=Lib.hid (C.o.read (p.alloc (.map #[] 0)) D.o 4 (by omega));have aD:=Lib.hid (C.o.len 4 (by omega));have aV:=Lib.hid (C.o.byte 4 (by omega));have aJ:Hid (ll (N 4)):=y.o.quota;go_wp2_with fail
 obtain⟨mb,aE⟩:=zD p.heap.size;rw[aE.o]at B ⊢;obtain⟨fb,aR⟩:=zD l.heap.size;rw[aR.o]at U ⊢;generalize p.alloc (.map #[] 0)=w8 at *
 refine s.o.mono ?_;rintro e w9 ⟨v9,rfl,v⟩;have aG:=Lib.hid (Below.step D.o v.below);have au:=Lib.hid v.at;have aa:=Lib.hid (B.o.of_block (v.below.block _ B.o.lt));have ap:=Lib.hid (we v.below U.o);clear v s B U ao;go_wp2_with fail
 refine (JS v9 (N 4) w9 au.o aV.o (by rw[aD.o];omega)).mono ?_;rintro e bl (⟨_,u,rfl,_,n⟩|⟨aB,_⟩);case inr=>exact yb aJ.o aB
 have J:=Lib.hid (Below.step aG.o n);have K:=Lib.hid (aa.o.of_block (n.block _ aa.o.lt));have G:=Lib.hid (we n ap.o);clear n aa ap au;go_wp2;go_loopw [61] (fun i wr=>∃t:Nat,t<=4/\i=.int .i64 t/\Hid (Below w w wr)/\Hid (MapL prog 3 wr mb [])/\Hid (wr.heap[fb]?=some (.cells A 95))) (fun i _=>4-(intOf i).toNat);case atStart=>exact⟨0,by omega,rfl,J,K,G⟩
 case round=>
  clear J K G;obtain⟨t,ht,rfl,HB,O,HF⟩:=hrel;by_cases X:t<4
  .have ak:(t:Int)<4:=(by omega);have bk:(0:Int)<=(t:Int):=(by omega);have Y:=Lib.hid (fun W=>aU.o t W X);go_wp2_with (refine yQ rfl 95 (.tmp 5) rfl fb rfl 95 A (0,0) _ HF.o forT rfl (by rw[Z.o];exact forI) ?_)
   refine (Y.o wr).mono ?_;cases V:vN f t with
   | true=>
    rintro e aL ⟨rfl,a⟩;have d:=Lib.hid (Below.step HB.o a);have g:=Lib.hid (O.o.of_block (a.block _ O.o.lt));have b:=Lib.hid (we a HF.o);obtain⟨L,hL⟩:=y.o.tree t X V;obtain⟨T,HT⟩:=zA (encT f t);have aQ:Hid (T.size=48):=(by rw[HT.o];exact oV _ _);have aK:Hid (∀j,j<T.size->A[t*48+j]?=T[j]?):=(by rw[HT.o,HA.o];exact VE f t X);have P:=Lib.hid (UV (C.o.below d.o) hk al f t mb L hL);rw[<-HT.o]at P;clear V a O HF HB hL Y;go_wp2_with (refine pR (by kernel_rfl) 93 (.tmp 69) rfl fb (t*48) rfl 95 A T (0,0) _ b.o aK.o vF rfl (by rw[aQ.o];exact qR) ?_)
    refine P.o.mono ?_;rintro e bo ⟨rfl,m⟩;have ax:=Lib.hid (Below.step d.o m);have a4:=Lib.hid (g.o.of_block (m.block _ g.o.lt));have a2:=Lib.hid (we m b.o);clear m g b d P;go_wp2;go_roundw;case rel=>exact⟨t+1,by omega,by go_num,ax,a4,a2⟩
    case measure=>simp[intOf];omega
   | false=>
    rintro e aL ⟨rfl,a⟩;have d:=Lib.hid (Below.step HB.o a);have g:=Lib.hid (O.o.of_block (a.block _ O.o.lt));have b:=Lib.hid (we a HF.o);clear V a O HF HB Y;go_wp2;go_roundw;case rel=>exact⟨t+1,by omega,by go_num,d,g,b⟩
    case measure=>simp[intOf];omega
  .obtain rfl:t=4:=(by omega);have ak:¬((4:Nat):Int)<4:=(by omega);go_wp2_with (first
    | (at_range;refine Ue _ rfl _ _ rfl 3 4 intT pw mb [] rfl O.o ?_;intro az E F an))
   have ae:Hid (Below w w az):=xC HB.o F HB.o.size (fun q hq=>by cases hq);have am:Hid (rA prog 3 az mb wr.heap.size [] [] 0):=E;clear E F an;go_loopw [13] (fun o wq=>o=.slice none 0 0/\Hid (Below w w wq)/\Hid (rA prog 3 wq mb wr.heap.size [] [] 0)) (fun _ _=>0);case atStart=>exact⟨rfl,ae,am⟩
   case round=>
    obtain⟨rfl,H,aj⟩:=hrel;go_wp2_with (at_next;refine V8 _ rfl _ rfl 3 intT mb _ [] [] 0 rfl aj.o (fun _=>?_) (fun x c w' ba hx hm=>yb hm (by simp)))
    refine (YL (.slice none 0 0) [] 0 wr (yW _ _ _ _) (by simp)).mono ?_;rintro e aH ⟨rfl,_,I⟩;have af:Hid (Below w w aH):=xC H.o I H.o.size (fun q hq=>by cases hq);clear I;go_wp2;go_ret;exact⟨rfl,af.o⟩
theorem MP (h:RdAt w r N k) (c:k<=256) (a:64<=k) (f:Fo) (b:jk N f k):
 Calls prog 58 #[.iface r.T r.u] w (fun e w'=>e=.returned (.slice none 0 0)/\Below w w w'):=of_raw h c a f b _ rfl
structure Fs where
 dk:Dk
 k:Nat
 sq:Int
 fo:Fo
 rows:List (Int×Int)
 nodes:List Pn
 todo:List (Int×List Int)
 held:List (Int×Int)
def logR (a:Addr) (sq:Int):Array Value:=#[.pointer (some a),.int .i64 5,.int .i64 32,.int .u32 sq]
def lJ (d lg:Value) (fo:Fo) (rv nv tv hv:Value) (i:Nat):Value:=
 if i=0 then d else if i=1 then lg else if i<194 then uO fo ((i-2) / 48) ((i-2)%48) else if i=194 then rv else if i=195 then nv else if i=196 then tv else hv
def fsR (d lg:Value) (fo:Fo) (rv nv tv hv:Value):Array Value:=Array.ofFn (n:=198) fun i=>lJ d lg fo rv nv tv hv i.val
theorem jp (d a:Value) (fo:Fo) (rv b c e:Value):(fsR d a fo rv b c e).size=198:=by simp[fsR]
theorem lN (d a:Value) (fo:Fo) (rv b c e:Value) (i:Nat) (h:i<198):(fsR d a fo rv b c e)[i]?=some (lJ d a fo rv b c e i):=by simp[fsR,h]
theorem iM (d b:Value) (fo:Fo) (rv c e f:Value):∀j,j<(encF fo).size->(fsR d b fo rv c e f)[2+j]?=(encF fo)[j]? :=fun j a=>by rw[uh]at a;rw[lN _ _ _ _ _ _ _ _ (by omega)];have:=sS fo (j / 48) (j%48) (by omega) (by omega);rw[show j / 48*48+j%48=j by omega]at this;rw[this];unfold lJ;rw[zb (by omega),zb (by omega),ze (by omega),show 2+j-2=j by omega]
def te (w:World) (B:Nat) (pl:List (Int×Value)) (l:List (Int×List Int)):Prop:=
 pl.map (·.1)=l.map (·.1)/\∀i (h:i<pl.length) (h':i<l.length),su w B pl[i].2 l[i].2
structure pZ (w:World) (F:Nat->Prop) (pl:List (Int×Value)) (l:List (Int×List Int)):Prop where
 sec:te w 0 pl l
 out:∀y∈pl,∀g,y.2.ownBlock=some g->¬F g
def kh (l:List (Int×Int)):List (Int×Value):=l.map fun y=>(y.1,.int .i64 y.2)
structure FsAt (w:World) (gf:Nat) (s:Fs) (F:Nat->Prop) (a:Addr):Prop where
 ex:∃gl rv nv bt bh E tl FD,
  w.heap[gf]?=some (.cells (fsR (.pointer (some a)) (gl,()) s.fo rv nv (.map (some bt)) (.map (some bh))) 101) /\
  uL w (.pointer (some a)) s.dk s.k FD/\(∀i,FD i->F i)/\¬FD gl/\w.heap[gl]?=some (.cells (logR a s.sq) 159)/\F gl /\
  Out F w (fun w'=>xT w' rv 2 s.rows.length (wT s.rows)) /\
  Out F w (fun w'=>xT w' nv 8 E.length (uu E))/\tP F w E s.nodes /\
  MapL prog 3 w bt tl/\pZ w F tl s.todo/\F bt/\bt≠bh/\¬FD bt /\
  MapL prog 3 w bh (kh s.held)/\F bh/\¬FD bh
 self:F gf
 len:s.nodes.length=32
 fin:∀i,F i->i<w.heap.size
 hold:s.held.length<=1000/\∀y∈s.held,0<=y.2/\y.2<=1000000
 k0:64<=s.k
 k1:s.k<=256
 rows:s.rows.length<=20
theorem Zt (h:su w B v D) (l:∀(g:Nat) (c:Array Value),B<=g->w.heap[g]?=some (.cells c 5)->w'.heap[g]?=w.heap[g]?):su w' B v D:=by obtain⟨g,b,a,j,i,k,d,e,f⟩:=h;exact⟨g,b,a,j,i,k,d,(l g _ d e).trans e,f⟩
theorem su.at (h:su w B v D):vC w v D:=by obtain⟨g,d,a,rfl,c,i,f,e,b⟩:=h;exact qZ c e b
theorem su.mono {B':Nat} (h:su w B v D) (k:B'<=B):su w B' v D:=by obtain⟨g,b,a,e,d,i,j,f,c⟩:=h;exact⟨g,b,a,e,d,i,by omega,f,c⟩
theorem te.keep (h:te w B pl l) (d:∀(g:Nat) (c:Array Value),B<=g->w.heap[g]?=some (.cells c 5)->w'.heap[g]?=w.heap[g]?):te w' B pl l:=
 ⟨h.1,fun i a b=>Zt (h.2 i a b) d⟩
theorem te.len (h:te w B pl l):pl.length=l.length:=by have:=congrArg List.length h.1;simpa using this
theorem te.nil (w:World) (B:Nat):te w B [] []:=⟨rfl,fun i h=>by simp at h⟩
theorem te.tail (h:te w B (x::pl) (y::l)):x.1=y.1/\su w B x.2 y.2/\te w B pl l:=by have c:=h.1;simp only[yI,tM]at c;refine⟨c.1,h.2 0 (by simp) (by simp),c.2,fun i a b=>?_⟩;have:=h.2 (i+1) (by simpa using a) (by simpa using b);simpa using this
theorem te.cons (d:x.1=y.1) (e:su w B x.2 y.2) (c:te w B pl l):te w B (x::pl) (y::l):=by
 refine⟨by simp[d,c.1],fun i a b=>?_⟩;cases i with
 | zero=>exact e
 | succ i=>simpa using c.2 i (by simpa using a) (by simpa using b)
theorem te.get {w:World} {B:Nat} {k:Int}:∀{pl:List (Int×Value)} {l:List (Int×List Int)},te w B pl l->(getZ pl k=none/\getZ l k=none)\/∃v D,getZ pl k=some v/\getZ l k=some D/\su w B v D
 | [],[],_=>zt ⟨rfl,rfl⟩
 | [],y::l,h=>by have:=h.len;simp at this
 | x::pl,[],h=>by have:=h.len;simp at this
 | x::pl,y::l,h=>by
  obtain⟨b,c,d⟩:=h.tail;unfold getZ;by_cases a:x.1=k
  .rw[ze a,ze (b▸a)];exact zu ⟨_,_,rfl,rfl,c⟩
  .rw[zb a,zb (b▸a)];exact te.get d
theorem te.put {w:World} {B:Nat} {k:Int} {v:Value} {D:List Int} (d:su w B v D):∀{pl:List (Int×Value)} {l:List (Int×List Int)},te w B pl l->te w B (putZ pl k v) (putZ l k D)
 | [],[],_=>te.cons rfl d (te.nil _ _)
 | [],y::l,h=>by have:=h.len;simp at this
 | x::pl,[],h=>by have:=h.len;simp at this
 | x::pl,y::l,h=>by
  obtain⟨a,c,b⟩:=h.tail;unfold putZ;rw[<-a];split
  .exact te.cons rfl d (te.cons a c b)
  .split
   .exact te.cons rfl d b
   .exact te.cons a c (te.put d b)
theorem pZ.len (h:pZ w F pl l):pl.length=l.length:=h.sec.len
theorem pZ.keep {F':Nat->Prop} (h:pZ w F pl l) (v:∀(g:Nat) (c:Array Value),¬F g->w.heap[g]?=some (.cells c 5)->w'.heap[g]?=w.heap[g]? /\¬F' g):pZ w' F' pl l:=by
 have o:∀i (b:i<pl.length),∃g c,pl[i].2.ownBlock=some g/\w.heap[g]?=some (.cells c 5):=fun i b=>by obtain⟨g,e,d,a,_,_,_,j,_⟩:=h.sec.2 i b (by rw[<-h.len];exact b);exact⟨g,d,by rw[a];rfl,j⟩
 refine⟨⟨h.sec.1,fun i b n=>?_⟩,fun y m g f t=>?_⟩
 .have q:=h.sec.2 i b n;obtain⟨g,e,d,a,k,r,s,j,p⟩:=id q;exact⟨g,e,d,a,k,r,s,(v g _ (h.out _ (zz b) g (by rw[a];rfl)) j).1.trans j,p⟩
 .obtain⟨i,b,rfl⟩:=vn m;obtain⟨u,c,a,k⟩:=o i b;rw[f]at a;injection a with a;subst a;exact (v g c (h.out _ m g f) k).2 t
theorem X7 {l:List (Int×Int)} {k:Int}:(getZ (kh l) k).getD (.int .i64 0)=.int .i64 ((getZ l k).getD 0):=by
 induction l with
 | nil=>rfl
 | cons y l a=>
  show (getZ ((y.1,Value.int .i64 y.2)::kh l) k).getD _=_;unfold getZ;split
  .rfl
  .exact a
theorem FsAt.below {gf:Nat} {s:Fs} {a:Addr} (h:FsAt w gf s F a) (R:Below w w w'):FsAt w' gf s F a:=by
 obtain⟨⟨n,z,C,Q,L,E,o,O,u,p,G,t,x,J,v,D,K,b,l,k,e,f,d,m,j⟩,M,N,y,B,A,I,q⟩:=h;exact⟨⟨n,z,C,Q,L,E,o,O,we R u,p.below R,G,t,we R x,J,v.below R,D.below R,K.keep (yK.of_below R),b.of_block (R.block _ b.lt),l.keep (fun g c r P=>⟨R.block g (xL P),r⟩),k,e,f,d.of_block (R.block _ d.lt),m,j⟩,
  M,N,fun i H=>zm (y i H) R.size,B,A,I,q⟩
