import Derived.Test.YtmanoiagchpelaaGreatDoorKC5
set_option maxHeartbeats 0
set_option linter.all false
set_option maxRecDepth 100000
namespace Go.Proofs.YtmanoiagchpelaaGreatDoor
open Go.Proofs.Tryz Go.RowKit
theorem mZ: prog.underlying 50=some (.map 3 3):=by kernel_rfl
theorem yccp (
 v:Value) (l:List DoI) (w:World) (h:pM w v l) (hl:l.length<=maxLen) (hs:∀x,x∈l->x.S.size<=maxLen):
 Calls prog 6 #[v] w (fun e w'=>e=.returned (.bool true)/\Below w w w'):=by
 have ce:=za (W7 w);have bw:=za (fun W (N:Below w w W)=>Wq v l W (wh.below h N) hl hs);have bf:Hid (ly l=true->∀W,Below w w W->Calls prog 22 #[v] W (fun e w'=>∃gf a F A,e=.returned (.tuple #[.pointer (some ⟨gf,0,none⟩),.pointer (some a)])/\FsAt w' gf (rc l) F a/\SI (rc l) 40 A/\(GI A fun _=>0)/\RI A/\Below W W w'/\∀i,F i->w.heap.size<=i)):=fun hb W N=>by obtain⟨O,h2⟩:=Ws hb;obtain⟨A,U,h4,h5⟩:=gA l (by omega) h2 l.length zL;rw[xJ]at U;refine (QK v l W (wh.below h N) O h2).mono ?_;rintro e w' ⟨gf,a,F,rfl,q1,q2,q3⟩;exact⟨gf,a,F,A,rfl,q1,U.mono O (by omega),h4,h5,q2,fun i hi=>zt N.size (q3 i hi)⟩
 obtain⟨sb,ck⟩:=zD (ly l);rw[ck.o]at bw bf;clear h hl hs;go_enter func6,ntmps6;go_wp2_with fail
 refine ce.o.mono ?_;rintro e w1 ⟨rfl,bL⟩;have b2:=za bL;clear bL;go_wp2_with fail
 refine (bw.o w1 b2.o).mono ?_;rintro e w2 ⟨rfl,bn⟩;have aD:Hid (Below w w w2):=zf b2.o bn;clear bn;cases sb with
 | false=>
  go_wp2;go_ret;exact⟨rfl,aD.o⟩
 | true=>
 have cj:=za (bf.o rfl w2 aD.o);go_wp2_with fail
 refine cj.o.mono ?_;rintro e w3 ⟨gf,a,F3,A,rfl,U,s3,g3,r3,br,f3⟩;generalize rc l=S at *
 have cn:Hid (Below w w w3):=zf aD.o br;have HS:=za s3;have HG:=za g3;have HR:=za r3;have Y:=za U;have HD:=za (Wa U (s3.dirsOk g3));have ah:=za (Um (s3.dirsOk g3));clear br s3 g3 r3 U f3;go_wp2_with fail
 refine HD.o.mono ?_;rintro e H ⟨v4,rfl,al,bK⟩;obtain⟨y,bM⟩:=zD (rC S);rw[bM.o]at al ah;obtain⟨M,HM⟩:=zD y.length;rw[HM.o]at al ah;obtain⟨_,_,ch,cA⟩:=ah.o;have C:Hid (Below w3 w3 H):=bK;obtain⟨g4,c4,cb,dj,_⟩:=al.form ch;subst cb;have co:Hid (∀j,j<M->∃n:Nat,n<32/\y.getD j 0=(n:Int)+1/\(S.nodes.getD n zN).k=2/\H.cell? ⟨g4,j,none⟩=some (.int .i64 ((n:Int)+1))/\g4<H.heap.size):=fun j hj=>by
  have aU:j<y.length:=by rw[HM.o];exact hj
  obtain⟨n1,n2,n3⟩:=ah.o.1 _ (zx aU);have bW:y.getD j 0=y[j]:=by rw[zi,zh aU];rfl
  have:=al.cells (g:=g4) rfl j (.int .i64 y[j]) (by unfold ints;rw[xF,zh aU];rfl);have bx:(⟨g4,0,none⟩:Addr).add j=⟨g4,j,none⟩:=by unfold Addr.add;split<;>simp_all
  rw[bx]at this;refine⟨(y[j]-1).toNat,by omega,by rw[bW];omega,n3,?_,zG this⟩;rw[this]
  congr 2
  omega
 have cg:Hid (∀d∈y,(entD S d).length<=32):=fun d hd=>by obtain⟨n1,n2,n3⟩:=ah.o.1 _ hd;exact (Vm ((HS.o.dirsOk HG.o).1 (d-1).toNat (by omega) n3)).1
 have bl:Hid (∀z,(sD S y).count z=cntA A z):=fun z=>by rw[IK,<-bM.o];exact HS.o.cntAll HG.o HR.o z
 have dh:=@run_makeMap prog;obtain⟨w5,cy,bo,bb⟩:=(tH (P:=prog) (K:=3) H).store intT mZ (by simp) (k:=1) (by unfold InZ;omega) (.int .i64 1);have c1:Hid (Below H H w5):=xB (zB.alloc zL _) bb.grown (by simp) (fun q hq=>by injection hq with hq;omega);have ba:Hid (MapL prog 3 w5 H (pg (sD S (y.take 0)))):=bo;have bH:Hid (Below w w H):=zf cn.o C.o;have d1:((M:Int)==0)=false:=by simp;omega
 have d2:decide ((32:Int)<(M:Int))=false:=zz (by omega);have d3:¬(32:Int)<(M:Int):=by omega
 clear al bK bo bb;go_wp2;obtain⟨b,Hb⟩:=zD H.heap.size;rw[Hb.o]at ba ⊢;clear cy;go_loopw [46] (fun i wr=>∃j:Nat,j<=M/\i=.int .i64 j/\Hid (Below H H wr)/\Hid (MapL prog 3 wr b (pg (sD S (y.take j))))) (fun i _=>M-(intOf i).toNat);case atStart=>exact⟨0,ye _,rfl,c1,ba⟩
 case round=>
  obtain⟨j,hj,rfl,HB,I⟩:=hrel;by_cases aB:j<M
  .obtain⟨n,hn,bc,ap,hc,b5⟩:=co.o j aB;have c0:=(HB.o.cell (p:=⟨g4,j,none⟩) b5).trans hc;have bJ:(j:Int)<(M:Int):=(by omega);have aF:=za (fun (W:World) (N:Below w3 w3 W)=>XZ (Y.o.below N) n _ _ ((HS.o.dirsOk HG.o).1 n hn ap));have aA:Hid (outD (dirB S n)=entD S ((n:Int)+1)):=(by show _=_;unfold entD;rw[show ((n:Int)+1-1).toNat=n by omega]);rw[aA.o]at aF;have a2:Hid (y.getD j 0=(n:Int)+1):=bc;obtain⟨E,HE⟩:=zD (entD S ((n:Int)+1));rw[HE.o]at aF;have bG:Hid (b<wr.heap.size):=I.o.lt;clear hc bc;go_wp2_with fail
   refine (aF.o wr (C.o.trans (HB.o.mono C.o.size))).mono ?_;rintro e w6 ⟨v6,rfl,bs,aK⟩;obtain⟨NE,HN⟩:=zA E.length;obtain⟨p6,c6,be,aI⟩:=tV bs;rw[<-HN.o]at be aI;subst be;have cf:Hid (0<NE->∃g,p6=some ⟨g,0,none⟩/\g<w6.heap.size/\¬g=b/\∀k (hk:k<E.length),w6.cell? ⟨g,k*2,none⟩=some (.string E[k].1)/\w6.cell? ⟨g,k*2+1,none⟩=some (.int .i64 E[k].2)):=fun h0=>(by obtain⟨g,O,h2,U⟩:=aI h0;exact⟨g,O,zG (U 0 _ (Zi E 0 (by rw[<-HN.o];exact h0)).1),fun hc=>by have:=bG.o;omega,fun k hk=>⟨U _ _ (Zi E k hk).1,U _ _ (Zi E k hk).2⟩⟩);have cp:Hid (MapL prog 3 w6 b (pg (sD S (y.take j)))):=I.o.of_block (aK.block _ bG.o);have ar:Hid (Below H H w6):=HB.o.trans (aK.mono HB.o.size);have ag:=(HS.o.dirsOk HG.o).1 n hn ap;have aQ:Hid (E.length<=32/\(∀x∈E,1<=x.2/\x.2<=32/\(S.nodes.getD (x.2-1).toNat zN).k≠0)/\pW E):=(by have O:=Vm ag;have h2:outD (dirB S n)=E:=aA.o.trans HE.o;rw[h2]at O;refine⟨O.1,fun x hx=>⟨(O.2 x hx).1,(O.2 x hx).2,?_⟩,by rw[<-h2];exact (mP ag.ok).1⟩;have U:=HS.o.A_at hn;have h4:x∈vq (A n):=(by unfold vq;rw[<-U.2.2.2.2.2.2.2,h2,ze (U.1.symm.trans ap)];exact hx);have h5:=HG.o.ino n hn x h4;rw[(HS.o.A_at (by have:=O.2 x hx;omega)).1];exact h5);have cN:NE<=32:=(by rw[HN.o];exact aQ.o.1);clear aK bs aI ag;go_wp2;go_loopw [60] (fun i wq=>∃t:Nat,t<=NE/\i=.int .i64 t/\Hid (yQ (fun i=>i=b) w6 wq)/\Hid (MapL prog 3 wq b (pg (sD S (y.take j)++((E.take t).map (·.2)))))) (fun i _=>NE-(intOf i).toNat);case atStart=>exact⟨0,ye _,rfl,yQ.refl _ _,by show MapL _ _ _ _ _;rw[xH,vY,yX];exact cp.o⟩
   case round=>
    obtain⟨t,ht,rfl,HK,ay⟩:=hrel;by_cases cx:t<NE
    .have Z:t<E.length:=(by rw[<-HN.o];exact cx);obtain⟨g6,rfl,aM,a5,aE⟩:=cf.o (by omega);obtain⟨q0,q1⟩:=aE t Z;obtain⟨x,Hx⟩:=zD (E[t]);have hx:=aQ.o.2.1 _ (zx Z);rw[Hx.o]at q0 q1 hx;obtain⟨xs,xi⟩:=x;dsimp only at q0 q1 hx;obtain⟨m,Hm⟩:∃m:Nat,Hid (xi=(m:Int)+1):=⟨(xi-1).toNat,by show _=_;omega⟩;rw[Hm.o]at q1 hx;have Q:m<32:=(by omega);have em:((m:Int)+1-1).toNat=m:=(by omega);rw[em]at hx;have ca:=za aE;have hq:wr.heap[g6]?=w6.heap[g6]? :=HK.o.block g6 aM a5;have aH:∀j,wr.cell? ⟨g6,j,none⟩=w6.cell? ⟨g6,j,none⟩:=fun j=>(by unfold World.cell?;rw[hq]);have y0:=(aH _).trans q0;have y1:=(aH _).trans q1;have b7:(t:Int)<(NE:Int):=(by omega);obtain⟨LL,ax⟩:=zD (sD S (y.take j)++((E.take t).map (·.2)));rw[ax.o]at ay;have dg:LL.length<=2000:=(by have O:=WO S (l:=y.take j) fun d hd=>cg.o d (yY hd);rw[<-ax.o,zm,yp,zj];rw[zj]at O;omega);have bu:Hid (∃R,sD S y=LL++[(m:Int)+1]++R):=(by obtain⟨R,hR⟩:=Ot S (l:=y) (j:=j) (by rw[HM.o];exact aB) (t+1);rw[a2.o,HE.o,<-zR Z,Hx.o,yy,<-zP,ax.o]at hR;refine⟨R,hR.trans ?_⟩;rw[<-Hm.o];rfl);have bF:Hid ((S.nodes.getD m zN).k=2->(S.nodes.getD m zN).up=(n:Int)+1/\(if (m:Int)+1=1 then 1 else 0)+LL.count ((m:Int)+1)=0):=fun f=>(by have bg:=HS.o.A_at hn;have bE:=HS.o.A_at Q;have he:(xs,xi)∈vq (A n):=(by unfold vq;rw[<-bg.2.2.2.2.2.2.2,aA.o,HE.o,ze (bg.1.symm.trans ap),<-Hx.o];exact zx Z);obtain⟨u1,u2,u3⟩:=HG.o.upOf HR.o hn he (by show (A (xi-1).toNat).k=2;rw[Hm.o,em,<-bE.1];exact f);dsimp only at u1 u2 u3;rw[Hm.o]at u1 u2 u3;rw[em]at u1;refine⟨bE.2.2.2.2.2.2.1.trans u1,?_⟩;obtain⟨R,hR⟩:=bu.o;have h4:=bl.o ((m:Int)+1);rw[hR,u2,sQ,sQ]at h4;rw[zb u3];simp at h4;omega);have aS:b<wr.heap.size:=ay.o.lt;have c7:g6<wr.heap.size:=zo aM HK.o.size;have bd:Hid (MapL prog 3 (wr.alloc (.cells #[.string xs,.int .i64 ((m:Int)+1)] 46)) b (pg LL)):=ay.o.of_block (wX _ _ _ aS);have D:=bd.o.look intT mZ (m9 _) (k:=(m:Int)+1) (by unfold InZ;omega);rw[Us]at D;obtain⟨c,Hc⟩:=zD ((if (m:Int)+1=1 then 1 else 0)+LL.count ((m:Int)+1));rw[Hc.o]at D;have dm:c<=2001:=(by have:=Hc.o;have h2:=List.count_le_length (a:=(m:Int)+1) (l:=LL);split at this<;>omega);obtain⟨w7,cc,bt,b8⟩:=bd.o.store intT mZ (by have:=Oa LL;omega) (k:=(m:Int)+1) (by unfold InZ;omega) (.int .i64 ((c:Int)+1));have bv:Hid (MapL prog 3 w7 b (pg (LL++[(m:Int)+1]))):=(by show MapL _ _ _ _ _;rw[N9,Hc.o];exact bt);have i1:=zW ((c:Int)+1) (by omega);have bB:Hid (yQ (fun i=>i=b) (wr.alloc (.cells #[.string xs,.int .i64 ((m:Int)+1)] 46)) w7):=yQ.grown b8.grown (fun r hr=>by injection hr with hr;exact hr.symm);have a7:Hid (yQ (fun i=>i=b) w6 w7):=(HK.o.step (yQ.alloc _)).step bB.o;have au:Hid (w7.heap[wr.heap.size]?=some (.cells #[.string xs,.int .i64 ((m:Int)+1)] 46)):=(bB.o.block _ (by simp) (by omega)).trans (zH);obtain⟨ge,c5⟩:=zD wr.heap.size;have z0:w7.cell? (wr.heap.size,0)=some (.string xs):=(by rw[zC au.o];rfl);have z1:w7.cell? (wr.heap.size,1)=some (.int .i64 ((m:Int)+1)):=(by rw[zC au.o];rfl);have bz:Hid (Below H H w7):=ar.o.trans (a7.o.to_below (fun i hi=>by rw[hi,<-Hb.o];exact zL) ar.o.size);obtain⟨X,HX⟩:=zD (S.nodes.getD m zN);have V:S.nodes[m]?=some X:=(by rw[<-HX.o,zi,zh (by rw[Y.o.len];exact Q)];rfl);rw[HX.o]at hx;have am:=za (fun (W:World) (N:Below w3 w3 W)=>hH (Y.o.below N) m Q X V);have a9:=za (fun (W:World) (N:Below w3 w3 W)=>fs_Up (Y.o.below N) m Q X V);unfold pG at am;rw[zb hx.2.2]at am a9;clear bt b8 q0 q1 aE V aH hq;go_wp2_with fail
     refine (am.o w7 (C.o.trans (bz.o.mono C.o.size))).mono ?_;rintro e B ⟨rfl,G⟩;have aO:wr.heap.size<w7.heap.size:=xR au.o;have x0:=(G.cell (p:=⟨wr.heap.size,0,none⟩) aO).trans z0;have x1:=(G.cell (p:=⟨wr.heap.size,1,none⟩) aO).trans z1;have ad:wr.heap.size<B.heap.size:=zo aO G.size;have bh:¬wr.heap.size=B.heap.size:=(by omega);have aa:=za G;have J:Hid (MapL prog 3 B b (pg (LL++[(m:Int)+1]))):=bv.o.of_block (G.block _ bv.o.lt);rw[c5.o]at x0 x1 ad bh au ⊢;clear G z0 z1 y0 y1 D cc;have ci:Hid (LL++[(m:Int)+1]=sD S (y.take j)++((E.take (t+1)).map (·.2))):=(by show _=_;rw[<-ax.o,<-zR Z,Hx.o,yy,zP,<-Hm.o];rfl);have a8:Hid (Below B B (B.alloc (.cells #[X.k,X.m,X.u,X.g,X.s,X.l] 52))):=zB.alloc zL _;have bp:((if (m:Int)+1=1 then 1 else 0)+(LL++[(m:Int)+1]).count ((m:Int)+1):Nat)=c+1:=(by rw[sQ,<-Hc.o];simp;omega);have a4:Hid (∀W,Below (B.alloc (.cells #[X.k,X.m,X.u,X.g,X.s,X.l] 52)).heap.size (B.alloc (.cells #[X.k,X.m,X.u,X.g,X.s,X.l] 52)) W->Hid (Below H H W)/\Hid (yQ (fun i=>i=b) w6 W)/\Hid (MapL prog 3 W b (pg (sD S (y.take j)++((E.take (t+1)).map (·.2))))) /\
      (Instr.lookup 50 (.map (some b)) (.int .i64 ((m:Int)+1)) false).run prog W=.ok (.int .i64 ((c+1:Nat):Int)) W/\W.cell? (ge,1)=some (.int .i64 ((m:Int)+1))/\W.cell? (B.heap.size,0)=some (.int .i64 X.k)):=fun W N=>by
      have h8:Below B B W:=zf a8.o N;have hm:=J.o.of_block (h8.block _ J.o.lt);refine⟨zf (zf bz.o aa.o) h8,(a7.o.step (yQ.of_below aa.o)).step (yQ.of_below h8),?_,?_,(h8.cell (p:=⟨ge,1,none⟩) ad).trans x1,zC (wy N (zH))⟩
      .show MapL _ _ _ _ _;rw[<-ci.o];exact hm
      .have D:=hm.look intT mZ (m9 _) (k:=(m:Int)+1) (by unfold InZ;omega);rw[Us,bp]at D;exact D
     have b0:(B.alloc (.cells #[X.k,X.m,X.u,X.g,X.s,X.l] 52)).cell? (ge,0)=some (.string xs):=(a8.o.cell (p:=⟨ge,0,none⟩) ad).trans x0;have cV:=xA b0;have aL:(X.k=2/\(if X.k=2 then X.up else 0)=(n:Int)+1/\(if X.k=0 then 4 else if X.k=2 then (0:Int) else 12)=0/\c=0)\/¬X.k=2:=by
      by_cases f:X.k=2
      .obtain⟨f1,f2⟩:=bF.o (by rw[HX.o];exact f);rw[HX.o]at f1;rw[ze f,zb (by omega),ze f];exact zr ⟨f,f1,rfl,by rw[<-Hc.o];exact f2⟩
      .exact zu f
     rw[zb hx.2.2]at aL;generalize (if X.k=2 then X.up else 0)=ud at *
     generalize (if X.k=2 then (0:Int) else 12)=ue at *
     have bi:=a9;clear bp a9 x0 x1;rcases vn t with ct|ct
     .have d5:decide ((0:Int)<(t:Int))=false:=zz (by omega);have d6:¬(0:Int)<(t:Int):=(by omega);go_wp2_with fail
      refine wQ (by kernel_rfl) (by kernel_rfl) ?_
      repeat (first
       | go_big_quiet_skip
       | (go_big_quiet_want;go_big_quiet_op;go_big_quiet_on))
      refine ve ?_;intro wz af;obtain⟨aN,aj,L,D,bX,sz⟩:=a4.o wz (sF af);clear af;go_wp2_with fail
      refine (bi.o wz (C.o.trans (aN.o.mono C.o.size))).mono ?_;rintro e w9 ⟨rfl,rfl⟩;rcases aL with⟨f,aP,a6,aG⟩|f
      .have k1:(X.k==2)=true:=(by simpa using f);subst aP a6 aG;go_wp2;go_roundw;case rel=>exact⟨t+1,by omega,by go_num,aj,L⟩
       case measure=>simp[intOf];omega
      .have k1:(X.k==2)=false:=(by simpa using f);go_wp2;go_roundw;case rel=>exact⟨t+1,by omega,by go_num,aj,L⟩
       case measure=>simp[intOf];omega
     .have d5:decide ((0:Int)<(t:Int))=true:=ya (by omega);have d6:(0:Int)<(t:Int):=(by omega);obtain⟨t',cR⟩:∃t',t=t'+1:=⟨t-1,by omega⟩;have i2:IntKind.i64.wrap ((t:Int)-1)=(t':Int):=(by rw[zQ _ (by omega)];omega);have a0:t'<E.length:=(by omega);have b9:(B.alloc (.cells #[X.k,X.m,X.u,X.g,X.s,X.l] 52)).cell? ⟨g6,t'*2,none⟩=some (.string E[t'].1):=(by have hk:=((a7.o.step (yQ.of_below aa.o)).step (yQ.of_below a8.o)).block g6 aM a5;have:=(ca.o t' a0).1;unfold World.cell? at this ⊢;rw[hk];exact this);have dk:=xA b9;have da:Op.bytesLess E[t'].1.toList xs.toList=true:=(by have:=xZ.1 aQ.o.2.2 t' t a0 Z (by omega);rw[Hx.o]at this;exact this);have cH:(t':Int)<(NE:Int):=(by omega);go_wp2_with fail
      refine wQ (by kernel_rfl) (by kernel_rfl) ?_
      repeat (first
       | go_big_quiet_skip
       | (go_big_quiet_want;go_big_quiet_op;go_big_quiet_on))
      refine ve ?_;intro wz af;obtain⟨aN,aj,L,D,bX,sz⟩:=a4.o wz (sF af);clear af;go_wp2_with fail
      refine (bi.o wz (C.o.trans (aN.o.mono C.o.size))).mono ?_;rintro e w9 ⟨rfl,rfl⟩;rcases aL with⟨f,aP,a6,aG⟩|f
      .have k1:(X.k==2)=true:=(by simpa using f);subst aP a6 aG;go_wp2;go_roundw;case rel=>exact⟨t+1,by omega,by go_num,aj,L⟩
       case measure=>simp[intOf];omega
      .have k1:(X.k==2)=false:=(by simpa using f);go_wp2;go_roundw;case rel=>exact⟨t+1,by omega,by go_num,aj,L⟩
       case measure=>simp[intOf];omega
    .obtain rfl:t=NE:=(by omega);have b7:¬(t:Int)<(t:Int):=(by omega);go_wp2;go_roundw;case rel=>exact⟨j+1,by omega,by go_num,ar.o.trans (HK.o.to_below (fun i hi=>by rw[hi,<-Hb.o];exact zL) ar.o.size),by show MapL _ _ _ _ _;rw[J5 S (by rw[HM.o];exact aB),a2.o,HE.o];have:=ay.o;rw[HN.o,xJ]at this;exact this⟩
     case measure=>simp[intOf];omega
  .obtain rfl:j=M:=(by omega);have bJ:¬(j:Int)<(j:Int):=(by omega);have L:Hid (MapL prog 3 wr b (pg (sD S y))):=(by show MapL _ _ _ _ _;have:=I.o;rw[<-HM.o,xJ]at this;exact this);have cs:=za HB.o;clear I HB;go_wp2;go_loopw [17] (fun i wr=>∃k:Nat,k<=32/\i=.int .i64 ((k:Int)+1)/\Hid (Below H H wr)/\Hid (MapL prog 3 wr b (pg (sD S y)))) (fun i _=>33-(intOf i).toNat);case atStart=>exact⟨0,ye _,rfl,cs,L⟩
   case round=>
    obtain⟨k,hk,rfl,HB,I⟩:=hrel;by_cases T:k<32
    .have b6:(k:Int)+1<=32:=(by omega);have cC:decide ((k:Int)+1<=32)=true:=ya b6;obtain⟨X,HX⟩:=zD (S.nodes.getD k zN);have V:S.nodes[k]?=some X:=(by rw[<-HX.o,zi,zh (by rw[Y.o.len];exact T)];rfl);have am:=za (fun (W:World) (N:Below w3 w3 W)=>hH (Y.o.below N) k T X V);have cl:Hid (X.k≠0->X.l=(((if (k:Int)+1=1 then 1 else 0)+(sD S y).count ((k:Int)+1):Nat):Int)):=fun aw=>by
      have O:=HS.o.A_at T;rw[HX.o]at O;rw[O.2.2.2.2.2.1,HG.o.cnt k T,bl.o];by_cases h0:k=0
      .subst h0;simp;omega
      .rw[zb h0,zb (by omega)];simp
     have aS:b<wr.heap.size:=I.o.lt;clear V;go_wp2_with fail
     refine (am.o wr (C.o.trans (HB.o.mono C.o.size))).mono ?_;rintro e B ⟨rfl,G⟩;have aa:Hid (Below H H B):=HB.o.trans (G.mono HB.o.size);have J:Hid (MapL prog 3 B b (pg (sD S y))):=I.o.of_block (G.block _ aS);clear G;unfold pG;by_cases aw:X.k=0
     .rw[ze aw];have ai:Hid (Below B B (B.alloc (.cells #[(),(),(),(),(),()] 52))):=zB.alloc zL _;go_wp2;go_roundw;case rel=>exact⟨k+1,by omega,by go_num,zf aa.o ai.o,J.o.of_block (ai.o.block _ J.o.lt)⟩
      case measure=>simp[intOf];omega
     .rw[zb aw];have ai:Hid (Below B B (B.alloc (.cells #[X.k,X.m,X.u,X.g,X.s,X.l] 52))):=zB.alloc zL _;have bI:Hid (MapL prog 3 (B.alloc (.cells #[X.k,X.m,X.u,X.g,X.s,X.l] 52)) b (pg (sD S y))):=J.o.of_block (ai.o.block _ J.o.lt);have D:=bI.o.look intT mZ (m9 _) (k:=(k:Int)+1) (by unfold InZ;omega);rw[Us,<-cl.o aw]at D;go_wp2;go_roundw;case rel=>exact⟨k+1,by omega,by go_num,zf aa.o ai.o,bI⟩
      case measure=>simp[intOf];omega
    .obtain rfl:k=32:=(by omega);go_wp2;go_ret;exact⟨rfl,bH.o.trans (HB.o.mono bH.o.size)⟩
