import Derived.Test.YtmanoiagchpelaaGreatDoorKA33
set_option maxHeartbeats 0
set_option linter.all false
set_option maxRecDepth 100000
namespace Go.Proofs.YtmanoiagchpelaaGreatDoor
open Go.Proofs.Tryz Go.RowKit
variable {F:Nat->Prop} {a:Addr} {k:Nat} {st:Dk} {w:World}
def ub (n:Nat):Fo:=⟨fun t i=>if t=0/\i<n then ((37+i:Nat)) else 0,fun t p=>decide (t=0)&&decide (37<=p)&&decide (p<37+n)⟩
def ot (n:Nat):Fo:=⟨(ub (n+1)).nd,(ub n).hs⟩
theorem Yr {f g:Fo} (a:∀t i,f.nd t i=g.nd t i) (b:∀t p,f.hs t p=g.hs t p):f=g:=by
 cases f;cases g
 congr 1
 .funext t i;exact a t i
 .funext t p;exact b t p
theorem N5: ub 0=tL:=by
 refine Yr (fun t i=>?_) (fun t p=>?_)
 .show (if t=0/\i<0 then _ else (0:Int))=_;rw[zb (by omega)];rfl
 .show (decide (t=0)&&decide (37<=p)&&decide (p<37+0))=_;have:(decide (37<=p)&&decide (p<37+0))=false:=by
   by_cases h:37<=p
   .simp[h]<;>omega
   .simp[h]
  rw[Bool.and_assoc,this,ik];rfl
theorem RR (n t j) (h:¬(t=0/\j=n)):(ub n).nd t j=(ot n).nd t j:=by
 unfold ub ot;dsimp only[ub];by_cases a:t=0/\j<n
 .rw[ze a,ze ⟨a.1,by omega⟩]
 .rw[zb a,zb (by omega)]
theorem P7 (n):(ot n).hs=(ub n).hs:=rfl
theorem MB (n) (f:n<16):(encF (ub n)).setIfInBounds n (.int .i64 ((37+n:Nat)))=encF (ot n):=by
 apply xa;intro i;rw[yM,uj];by_cases d:n=i
 .subst d;rw[ze rfl,ze (by omega)];have a:=rk (ot n) 0 n (by omega) (by omega);rw[uL,yO]at a;rw[a];unfold uU;rw[ze f];show _=some (Value.int .i64 (if 0=0/\n<n+1 then _ else _));rw[ze ⟨rfl,by omega⟩]
 .rw[zb d];by_cases e:i<192
  .have a:=rk (ub n) (i / 48) (i%48) (by omega) (by omega);have c:=rk (ot n) (i / 48) (i%48) (by omega) (by omega);rw[show i / 48*48+i%48=i by omega]at a c;rw[a,c];unfold uU;by_cases b:i%48<16
   .rw[ze b,ze b];rw[RR n (i / 48) (i%48) (by omega)]
   .rw[zb b,zb b,P7]
  .rw[yd (by rw[uj];omega),yd (by rw[uj];omega)]
def hasG (f:Fo) (s:Nat->Bool):Fo:=⟨f.nd,fun k=>if k=0 then s else f.hs k⟩
theorem Lr (f) (s):((encF f).toList.take 16++(enc s).toList++(encF f).toList.drop (16+(enc s).size)).toArray=encF (hasG f s):=by
 apply xa;intro i;have d:(enc s).toList.length=32:=by simpa using tP s
 have b:(encF f).toList.length=192:=by simpa using uj f
 have g:∀j,(encF f).toList[j]?=(encF f)[j]? :=fun j=>zO;rw[xM,tP];have a:∀f,i<192->(encF f)[i]?=some (uU f (i / 48) (i%48)):=fun f l=>by
  have:=rk f (i / 48) (i%48) (by omega) (by omega)
  rwa [show i / 48*48+i%48=i by omega]at this
 by_cases h:i<16
 .rw[zP,zX (by rw[zj,b];omega),zI,ze h,g,a _ (by omega),a _ (by omega)];unfold uU;rw[ze (by omega),ze (by omega)];rfl
 .by_cases k:i<48
  .rw[zP,zy (by rw[zj,b];omega),zX (by rw[zj,b,d];omega),zj,b,zO,pY _ _ (by omega),a _ (by omega)];unfold uU;rw[zb (by omega),show i / 48=0 by omega,show min 16 192=16 by omega,show i%48-16=i-16 by omega];rfl
  .rw[zP,zy (by rw[zj,b];omega),zy (by rw[zj,b,d];omega),yw,zj,b,d,g];rw[show 16+32+(i-min 16 192-32)=i by omega];by_cases e:i<192
   .rw[a _ e,a _ e];unfold uU;by_cases c:i%48<16
    .rw[ze c,ze c];rfl
    .rw[zb c,zb c];show _=some (Value.int .u8 (tN (if i / 48=0 then s else f.hs (i / 48)) (i%48-16)));rw[zb (by omega)]
   .rw[yd (by rw[uj];omega),yd (by rw[uj];omega)]
theorem N6 (n):hasG (ot n) (ins ((ot n).hs 0) (37+n))=ub (n+1):=by
 refine Yr (fun t i=>rfl) (fun t p=>?_);show (if t=0 then ins ((ub n).hs 0) (37+n) else (ub n).hs t) p=(ub (n+1)).hs t p;by_cases a:t=0
 .subst a;rw[ze rfl];unfold ins ub;dsimp only;by_cases b:p=37+n
  .subst b;simp
  .have:decide (p<37+n)=decide (p<37+(n+1)):=by
    by_cases h:p<37+n
    .rw[ya h,ya (by omega)]
    .rw[zz h,zz (by omega)]
   simp[b,this]
 .rw[zb a];unfold ub;simp[a]
def rE : List Int:=List.replicate 64 0
def zE (st:Dk):Nat->Dk
 | 0=>st
 | j+1=>se (zE st j) j rE
def fE (st:Dk) (b:List Int):Nat->Dk
 | 0=>st
 | j+1=>se (fE st b j) (1+j) (sec b j)
def qv : List Int:=rV 2 493 0 0 0 1 1 []++List.replicate 32 0
def fmtE (st:Dk) (k:Nat):Dk:=pU (se (se (fE (zE st k) (uH (ub 16)) 3) 37 qv) 0 (rB k))
theorem zE_W (st):∀j,(zE st j).W.length<=st.W.length+j
 | 0=>zL
 | j+1=>by have a:=V6 (zE st j) j rE;have b:=zE_W st j;show (se (zE st j) j rE).W.length<=_;omega
theorem fE_W (st) (b):∀j,(fE st b j).W.length<=st.W.length+j
 | 0=>zL
 | j+1=>by have a:=V6 (fE st b j) (1+j) (sec b j);have c:=fE_W st b j;show (se (fE st b j) (1+j) (sec b j)).W.length<=_;omega
theorem M9: qa (ub 16)=0:=by kernel_rfl
theorem NF: vL 2 493 0 0 0 1 1 []=0:=by kernel_rfl
theorem Vw: (rV 2 493 0 0 0 1 1 []).length=32:=by kernel_rfl
theorem Zl: qv.length=64:=by unfold qv;rw[zm,Vw,yN]
theorem Yi (n):(Builtin.zeroCells #[.int .u8 0] n).toList=List.replicate n (Value.int .u8 0):=by
 apply tI
 .simp[Builtin.zeroCells]
 .intro i a b;simp[Builtin.zeroCells,qK]
theorem KJ {g n:Nat} {cur:Array Value} {t:TypeId} {D:List Int} (b:w.heap[g]?=some (.cells cur t)) (d:¬F g) (e:cur.toList.take n=u8s D) (f:D.length=n) (o m c) (h:o+m<=n):∀w',yQ F w w'->vQ w' (.slice (some ⟨g,o,none⟩) m c) ((D.drop o).take m):=fun _w' a=>
 Yk (_base:=0) (_c:=0) f ((a.block g (xR b) d).trans b) e o m c h
theorem OO (h:uS w (.pointer (some a)) st k F) (hk:64<=k) (ab:k<=256) (hW:st.W.length<=1000):
 Calls prog 56 #[.pointer (some a)] w (fun e w'=>e=.returned ()/\Did (.pointer (some a)) (fmtE st k) k F w w'):=by
 have H:=za h;have HF:=za h.fin;have bN:=za (mH h);have d1:decide ((k:Int)<64)=false:=zz (by omega);have d2:¬((k:Int)<64):=by omega
 have d3:¬(k<64):=by omega
 obtain⟨Z,HZ⟩:=zA (List.replicate 64 (0:Int));have ax:Hid (Z.length=64):=by show _=_;rw[HZ.o];simp
 have cw:∀W,(Instr.makeSlice 56 (.int .i64 64) (.int .i64 64)).run prog W=.ok (.slice (some ⟨W.heap.size,0,none⟩) 64 64) (W.alloc (.cells (u8s Z).toArray 5)):=fun W=>by rw[HZ.o];exact jB 64 64 rfl (by omega) W
 have aZ:Hid (Below w w (w.alloc (.cells (u8s Z).toArray 5))):=zB.alloc zL _;have az:Hid ((w.alloc (.cells (u8s Z).toArray 5)).heap[w.heap.size]?=some (.cells (u8s Z).toArray 5 (0,0))):=zH;have aQ:=za (h.below aZ.o);have aV:=za (mH aQ.o);clear h;go_enter func56,ntmps56;go_wp2_with fail
 refine bN.o.mono ?_;rintro e w' ⟨rfl,rfl⟩;go_wp2_with fail
 refine aV.o.mono ?_;rintro e w1 ⟨rfl,rfl⟩;obtain⟨gz,a0⟩:=zD w.heap.size;rw[a0.o]at az ⊢;have bo:=za (xR az.o);generalize w.alloc (.cells (u8s Z).toArray 5)=w1 at *
 go_wp2;go_loopw [18] (fun G wr=>∃j:Nat,j<=k/\G=.int .i64 j/\Hid (Did (.pointer (some a)) (zE st j) k F w1 wr)) (fun G _=>k-(intOf G).toNat);case atStart=>exact⟨0,by omega,rfl,⟨F,aQ.o,fun _ r=>zr r,yQ.refl _ _⟩⟩
 case round=>
  obtain⟨j,hj,rfl,bS⟩:=hrel;obtain⟨M,f,s,m⟩:=bS.o;have a6:¬M gz:=fun hc=>by
   rcases s gz hc with h|h
   .have:=HF.o gz h;have:=a0.o;omega
   .have:=bo.o;omega
  have I:¬F gz:=fun hc=>by have:=HF.o gz hc;have:=a0.o;omega
  have a9:=(m.block gz bo.o I).trans az.o;by_cases b6:j<k
  .have bg:j<(k:Int):=(by omega);have z:=KJ (n:=64) a9 a6 (by rw[xX,zv (by rw[uo,ax.o];exact zL)]) ax.o 0 64 64 (by omega);rw[wT,zv (by rw[ax.o];exact zL),HZ.o]at z;have D:=za (jM f j b6 (.slice (some ⟨gz,0,none⟩) 64 64) rE (by simp[rE]) z (by have:=zE_W st j;omega));have HY:Hid (yQ F w1 wr/\∀i,M i->F i\/w1.heap.size<=i):=⟨m,s⟩;clear f s m a6 I a9 z;go_wp2_with fail
   refine D.o.mono ?_;rintro e w2 ⟨rfl,O⟩;have bw:Hid (Did (.pointer (some a)) (zE st (j+1)) k F w1 w2):=um HY.o.1 HY.o.2 O;clear O;go_wp2;go_roundw;case rel=>exact⟨j+1,by omega,by go_num,bw⟩
   case measure=>simp[intOf];omega
  .obtain rfl:j=k:=(by omega);have bg:¬j<(j:Int):=(by omega);obtain⟨l,bT⟩:∃x,x=wr:=⟨wr,rfl⟩;subst bT;have HY:Hid (uS l (.pointer (some a)) (zE st j) j M/\(∀i,M i->F i\/w1.heap.size<=i)/\yQ F w1 l):=⟨f,s,m⟩;obtain⟨Z0,bq⟩:=zA (encF tL);have bP:Hid (∀w,(zeroValue 106).run prog w=.ok (.agg Z0) w):=(by rw[bq.o];exact forZ);have bC:Hid (Below l l (l.alloc (.cells Z0 106))):=zB.alloc zL _;have ay:Hid ((l.alloc (.cells Z0 106)).heap[l.heap.size]?=some (.cells (encF (ub 0)) 106)):=(by show _=_;rw[N5,<-bq.o];exact zH);clear f s m a6 I a9;go_wp2_with (refine oC rfl 106 rfl Z0 bP.o ?_)
   obtain⟨b,E⟩:=zD l.heap.size;rw[E.o]at ay ⊢;generalize l.alloc (.cells Z0 106)=w2 at *
   have bX:Hid ((∀i,M i->i<b)/\b<w2.heap.size):=⟨fun i r=>by rw[<-E.o];exact HY.o.1.fin i r,xR ay.o⟩;go_wp2;go_loopw [26] (fun G wq=>∃n:Nat,n<=16/\G=.int .i64 n/\Hid (wq.heap[b]?=some (.cells (encF (ub n)) 106))/\Hid (Below b l wq)) (fun G _=>16-(intOf G).toNat);case atStart=>exact⟨0,by omega,rfl,ay.o,by show Below _ _ _;rw[<-E.o];exact bC.o⟩
   case round=>
    obtain⟨n,hn,rfl,au,aX⟩:=hrel;have cg:b<=wr.heap.size:=(by have:=xR au.o;omega);by_cases aG:n<16
    .have bK:(n:Int)<16:=(by omega);obtain⟨R,HR⟩:=zD (encF (ub n));have aa:Hid (R.size=192):=(by show _=_;rw[<-HR.o];exact uj _);have B:=au.o;rw[HR.o]at B;have cn:wr.cell? (b,n)=some (R[n]' (by rw[aa.o];omega)):=(zC B).trans (xL _);have zn:wr.frozen? (b,n)=false:=zF B;obtain⟨cv,bh⟩:∃c,(R[n]' (by rw[aa.o];omega))=c:=⟨_,rfl⟩;rw[bh]at cn;clear bh;obtain⟨R1,t⟩:=zD (encF (ot n));have b0:Hid (R.setIfInBounds n (.int .i64 (37+n))=R1):=by
      show _=_;rw[<-HR.o,<-t.o,<-MB n aG]
      congr 2
     have V:Hid ((wr.setCell (b,n) (.int .i64 (37+n))).heap[b]?=some (.cells R1 106)):=(by show _=_;rw[<-b0.o];exact yb _ _ n _ _ _ B);have bd:Hid (R1.size=192):=(by show _=_;rw[<-t.o];exact uj _);obtain⟨S0,av⟩:=zA (enc ((ot n).hs 0));have aN:Hid (S0.size=32):=(by rw[av.o];exact tP _);have b1:Hid (∀j,j<S0.size->R1[16+j]?=S0[j]?):=(by rw[<-t.o,av.o];have h2:∀j,j<(enc ((ot n).hs 0)).size->(encF (ot n))[16+j]?=(enc ((ot n).hs 0))[j]? :=(by have:=Vx (ot n) 0 (by omega);simpa using this);exact h2);obtain⟨S1,u⟩:=zA (enc (ins ((ot n).hs 0) (37+n)));have al:Hid (S1.size=32):=(by rw[u.o];exact tP _);have be:Hid (S1.all (·.oneCell')=true):=(by rw[u.o];exact lW _);have bH:Hid (∀W,Calls prog 106 #[.agg S0,.int .i64 (37+n)] W fun e w'=>e=.returned (.agg S1)/\Below W W w'):=fun W=>(by have:=iQ ((ot n).hs 0) (37+(n:Int)) W (by omega) (by omega);rw[show (37+(n:Int)).toNat=37+n by omega]at this;rw[av.o,u.o];exact this);obtain⟨R2,ah⟩:=zD (encF (ub (n+1)));have bG:Hid ((R1.toList.take 16++S1.toList++R1.toList.drop (16+S1.size)).toArray=R2):=(by show _=_;rw[<-t.o,u.o,<-ah.o,<-N6];exact Lr _ _);have bF:Hid (Below b l (wr.setCell (b,n) (.int .i64 (37+n)))):=aX.o.setCell (p:=⟨b,n,none⟩) zL _;clear B
     go_upto_region 14 with fail
     generalize wr.setCell (b,n) (.int .i64 (37+(n:Int)))=w3 at *
     go_wp2_with (refine pZ (by kernel_rfl) 102 (.tmp 36) rfl b 16 rfl 106 R1 S0 (0,0) _ V.o b1.o setT rfl (by rw[aN.o];exact setI) ?_)
     refine (bH.o w3).mono ?_;rintro e w4 ⟨rfl,aC⟩;have ak:=za (wy aC V.o);have bk:b<=w3.heap.size:=(by have:=xR V.o;omega);have bO:=za (bF.o.trans (aC.mono bk));clear aC;have bZ:∀(Q:Exit->Act->World->Prop),True:=fun _=>trivial;go_wp2_with (refine jI rfl 102 (.tmp 42) (.tmp 40) rfl b 16 S1 rfl rfl 106 R1 R2 ak.o (by rw[al.o];exact setI) (by rw[al.o,bd.o];omega) be.o bG.o ?_)
     have bi:Hid ((w4.setRow b R2).heap[b]?=some (.cells (encF (ub (n+1))) 106)):=(by show _=_;rw[ah.o];exact yh _ _ _ _ _ _ ak.o);have ad:Hid (Below b l (w4.setRow b R2)):=xI bO.o zL _;go_wp2;go_roundw;case rel=>exact⟨n+1,by omega,by go_num,bi,ad⟩
     case measure=>simp[intOf];omega
    .obtain rfl:n=16:=(by omega);obtain⟨R,HR⟩:=zD (encF (ub 16));have aa:Hid (R.size=192):=(by show _=_;rw[<-HR.o];exact uj _);have bW:Hid (wr.heap[b]?=some (.cells R 106)):=(by rw[<-HR.o];exact au.o);have bA:Hid (Calls prog 107 #[.agg R] wr (VF (ub 16) wr)):=(by rw[<-HR.o];exact K4 _ M9 wr);have ba:Hid (Below l l wr):=(by show Below _ _ _;rw[E.o];exact aX.o);go_wp2_with (refine yS rfl 106 (.tmp 5) rfl b rfl 106 R (0,0) _ bW.o forT rfl (by rw[aa.o];exact forI) ?_)
     refine bA.o.mono ?_;rintro e w5 ⟨v5,rfl,aI,bl⟩;obtain⟨_,⟨_,h0⟩|⟨gP,cP,ap,rfl,bV,br,aL,_,_,aU⟩⟩:=id aI
     .omega
     have ad:=za (zf ba.o bl);have T:Hid (w5.heap[gP]?=some (.cells ap 5)/\ap.toList.take 192=u8s (uH (ub 16))/\192<=cP/\l.heap.size<=gP):=⟨br,by simpa using aU,aL,zt ba.o.size (by omega)⟩;clear aI bl bV br aL aU;have bE:=za (UL 2 493 0 0 0 1 1 (.slice none 0 0) [] w5 ⟨rfl,zr ⟨rfl,_,_,rfl⟩⟩ NF);go_wp2_with fail
     refine bE.o.mono ?_;rintro e w6 ⟨A,rfl,bb,aR,a2⟩;have aK:=za (zf ad.o a2);have L:Hid (w6.heap[A]?=some (.cells (byts (rV 2 493 0 0 0 1 1 [])) 5)/\l.heap.size<=A):=⟨aR,zt ad.o.size bb⟩;have K:=za (wy a2 T.o.1);have b2:=za (HY.o.1.below aK.o);clear bb aR a2;go_wp2;go_loopw [60] (fun G wq=>∃n:Nat,n<=3/\G=.int .i64 n/\Hid (Did (.pointer (some a)) (fE (zE st j) (uH (ub 16)) n) j M w6 wq)) (fun G _=>3-(intOf G).toNat);case atStart=>exact⟨0,by omega,rfl,⟨M,b2.o,fun _ r=>zr r,yQ.refl _ _⟩⟩
     case round=>
      obtain⟨n,hn,rfl,b4⟩:=hrel;obtain⟨F2,f,s,m⟩:=b4.o;have Y:Hid ((∀i,F2 i->M i\/w6.heap.size<=i)/\yQ M w6 wr):=⟨s,m⟩;have U:∀g,l.heap.size<=g->¬M g:=fun g hg hc=>(by have:=bX.o.1 g hc;have:=E.o;omega);have ae:∀g,l.heap.size<=g->g<w6.heap.size->¬F2 g:=fun g hg c1 hc=>(s g hc).elim (U g hg) (fun h=>by omega);have a3:=(m.block gP (xR K.o) (U gP T.o.2.2.2)).trans K.o;by_cases b9:n<3
      .have ch:(n:Int)<3:=(by omega);have z:=KJ (n:=192) a3 (ae gP T.o.2.2.2 (xR K.o)) T.o.2.1 (Zp _) (64*n) 64 (cP-64*n) (by omega);have a1:=fE_W (zE st j) (uH (ub 16)) n;have a7:=zE_W st j;have D:=za (jM f (1+n) (by omega) (.slice (some (gP,64*n)) 64 (cP-64*n)) (sec (uH (ub 16)) n) (by rw[mI (k:=3) (Zp _) b9]) z (by omega));have i1:=zW (64*n) (by omega);have i2:=zW (n+1) (by omega);have i3:=zW (64*(n+1)) (by omega);have i4:=zW (1+n) (by omega);have i5:((1+n:Nat))=1+(n:Int):=(by omega);have bx:=T.o.2.2.1;rw[i5]at D;clear f s m U ae a3 z;go_wp2_with fail
       rw[show 64*(n+1)-64*n=64 by omega];refine D.o.mono ?_;rintro e w7 ⟨rfl,bj⟩;have bI:Hid (Did (.pointer (some a)) (fE (zE st j) (uH (ub 16)) (n+1)) j M w6 w7):=um Y.o.2 Y.o.1 bj;clear bj D;go_wp2;go_roundw;case rel=>exact⟨n+1,by omega,by go_num,bI⟩
       case measure=>simp[intOf];omega
      .obtain rfl:n=3:=(by omega);obtain⟨d,b7⟩:∃x,x=wr:=⟨wr,rfl⟩;subst b7;have a4:=(m.block A (xR L.o.1) (U A L.o.2)).trans L.o.1;have cq:=za f;have cf:=za a4;have bn:=ae A L.o.2 (xR L.o.1);obtain⟨i0,u1,u2,u3,u4⟩:=xy fW;have ag:prog.underlying 3=some (.int .i64):=(by kernel_rfl);have aW:=fun ty=>ZB (P:=prog) d 56 3 ty 5 i0 _ .i64 .i64 u8sT ag u1 u2 (some ⟨A,0,none⟩) 32 32 (u8s (rV 2 493 0 0 0 1 1 [])) (by rw[u3];exact run_firstCells_some d.drew 1 32 ⟨A,0,none⟩ 32 32 _ (by rw[uo,Vw]) (fun q v hv=>by have aY:(⟨A,0,none⟩:Addr).add q=⟨A,q,none⟩:=(by unfold Addr.add;split<;>simp_all);rw[aY];show d.drew.cell? _=_;rw[show d.drew.cell? ⟨A,q,none⟩=d.cell? ⟨A,q,none⟩ from rfl,zC a4,<-hv];simp[byts,u8s])) 32 (by omega) (by rw[u3];omega) (by omega) (by omega) (by rw[u4];omega) (by rw[u4];exact growslice_fits_wide (by omega) (by omega));obtain⟨cp,bf⟩:=zD (grownCap d (32+32) 32 5);have aq:64<=cp:=(by rw[<-bf.o];exact lH _ _ _ _);obtain⟨C,HC⟩:=zD ((u8s (rV 2 493 0 0 0 1 1 [])).toArray++Builtin.zeroCells (Value.int .u8 0).cells 32++Builtin.zeroCells (Value.int .u8 0).cells (grownCap d (32+32) 32 5-(32+32)));have bU:Hid (C.toList.take 64=u8s qv):=by
        show _=_;rw[<-HC.o];simp only[Array.toList_append,xX];rw[show (Value.int .u8 0).cells=#[Value.int .u8 0] from rfl,Yi,Yi];have e1:(u8s (rV 2 493 0 0 0 1 1 [])++List.replicate 32 (Value.int .u8 0)).length=64:=(by rw[zm,uo,Vw,yN]);rw[yT (by rw[e1];omega),zv (by rw[e1];omega)];unfold qv;rw[pC]
        congr 1
       have ai:∀ty,(Builtin.append_ #[56,3] ty #[.slice (some ⟨A,0,none⟩) 32 32,(32:Int)]).run prog d=.ok (.slice (some ⟨d.heap.size,0,none⟩) 64 cp) (d.drew.alloc (.cells C 5)):=fun ty=>(by have:=aW ty;rw[HC.o,bf.o]at this;exact this);have bR:=za ai;clear ai;have ac:Hid (Below d d (d.drew.alloc (.cells C 5))):=(zB.drew).alloc zL _;have b5:Hid ((d.drew.alloc (.cells C 5)).heap[d.heap.size]?=some (.cells C 5)):=zT d.drew _;have a1:=fE_W (zE st j) (uH (ub 16)) 3;have a7:=zE_W st j;have bz:Hid (st.W.length<=1000/\j<=256/\(zE st j).W.length<=st.W.length+j/\(fE (zE st j) (uH (ub 16)) 3).W.length<=(zE st j).W.length+3):=⟨hW,ab,a7,a1⟩;have N:=KJ (F:=F2) (n:=64) b5.o (fun hc=>by have:=f.fin _ hc;omega) bU.o Zl 0 64 cp (by omega);rw[wT,zv (by rw[Zl];exact zL)]at N;have an:=za (jM (f.below ac.o) 37 (by omega) (.slice (some ⟨d.heap.size,0,none⟩) 64 cp) qv Zl N (by omega));have cy:=za (Y.o.2.step (yQ.of_below ac.o));clear u1 u2 u3 u4 aW ag N a4 a3 f s m U ae bn a1 a7 aq;go_wp2_with (at_builtin;refine Lib.wpList_append_run _ rfl _ _ _ _ rfl _ _ rfl rfl _ _ (bR.o _) ?_)
       refine an.o.mono ?_;rintro e X ⟨rfl,F3,f,s,m⟩;have aO:Hid ((∀i,F3 i->F2 i\/d.heap.size<=i)/\yQ F2 d X):=⟨fun i r=>(s i r).imp id fun h=>zt ac.o.size h,(yQ.of_below ac.o).trans m fun i r=>zr r⟩;have aj:=za f;have aB:=za (mH f);have ar:=za (fy j (by omega) X);clear f s m an;go_wp2_with fail
       refine aB.o.mono ?_;rintro e cx ⟨rfl,rfl⟩;go_wp2_with fail
       refine ar.o.mono ?_;rintro e c3 ⟨bQ,rfl,y⟩;have ao:=za y.below;have J:=y.keep aj.o.fin;have S:=za (jM (aj.o.below y.below) 0 (by omega) bQ (rB j) (Zq j) J (by have h1:=bz.o;have h2:=V6 (fE (zE st j) (uH (ub 16)) 3) 37 qv;omega));clear y J;go_wp2_with fail
       refine S.o.mono ?_;rintro e bL ⟨rfl,F4,f,s,m⟩;have bm:Hid ((∀i,F4 i->F3 i\/X.heap.size<=i)/\yQ F3 X bL):=⟨fun i r=>(s i r).imp id fun h=>zt ao.o.size h,(yQ.of_below ao.o).trans m fun i r=>zr r⟩;have bB:=za (fJ f);clear f s m S;go_wp2_with fail
       refine bB.o.mono ?_;rintro e bM ⟨rfl,am⟩;have hd:Did (.pointer (some a)) (fmtE st j) j F3 X bM:=um bm.o.2 bm.o.1 am;have O:=um aO.o.2 aO.o.1 hd;have aH:=um Y.o.2 Y.o.1 O;have bc:=um (yQ.of_below aK.o) (fun i r=>zr r) aH;have aJ:=um HY.o.2.2 HY.o.2.1 bc;have aT:=za (um (yQ.of_below aZ.o) (fun i r=>zr r) aJ);clear am hd O aH bc aJ;go_wp2;go_ret;exact⟨rfl,aT.o⟩
def LogK (a:Addr) (st:Dk) (k:Nat) (sq:Int) (F:Nat->Prop) (gl:Nat) (w w':World):Prop:=
 ∃F',uS w' (.pointer (some a)) st k F'/\(∀i,F' i->F i\/w.heap.size<=i)/\¬F' gl/\yQ F w w'/\w'.heap[gl]?=some (.cells (logR a sq) 198)/\w.heap.size<=gl
theorem XI {kd:Nat} (l:64<=kd) (m:kd<=256) (h:uS w (.pointer (some a)) st kd F) (n:un st.N) (o:∀x∈qW st.N,lf kd x) (p:st.W.length<900000):
 Calls prog 96 #[.pointer (some a),(5:Int),(32:Int)] w fun e w'=>∃gl,e=.returned (.tuple #[.pointer (some ⟨gl,0,none⟩),()])/\LogK a (lr st) kd (seqO st.N) F gl w w':=
 (TM l m h n o p).mono fun e w' ⟨gl,d,i,c,f,k,g,j,b⟩=>⟨gl,d,c,f,k,g,j,b,i⟩
theorem Nj: ∃Z PL:Array _,Z.size=198/\PL[0]?=some (0,1)/\PL[1]?=some (1,1)/\PL[2]?=some (2,192)/\PL[3]?=some (194,1)/\PL[4]?=some (195,1)/\PL[5]?=some (196,1)/\PL[6]?=some (197,1) /\
 ∀parts,prog.built 111 parts=Instr.fill (PL[·]?) Z parts:=
 ⟨((prog.info? 111).bind (·.zero)).get!.cells,#[(0,1),(1,1),(2,192),(194,1),(195,1),(196,1),(197,1)],by kernel_rfl,rfl,rfl,rfl,rfl,rfl,rfl,rfl,fun _=>by kernel_rfl⟩
theorem Q0 (p l) (fo) (q3 q4) (n3 n4 c3 c4 gd gh):prog.built 111 [(0,.pointer (some p)),(1,.pointer (some l)),(2,.agg (encF fo)),(3,.slice q3 n3 c3),(4,.slice q4 n4 c4),(5,.map (some gd)),(6,.map (some gh))] =
 some (fsR (.pointer (some p)) (.pointer (some l)) fo (.slice q3 n3 c3) (.slice q4 n4 c4) (.map (some gd)) (.map (some gh))):=by
 obtain⟨Z,a,R,E,z,m,e,g,f,o,s⟩:=Nj;have b:=uj fo;have t:∀i,2<=i->i<194->(encF fo)[i-2]?=some (uU fo ((i-2) / 48) ((i-2)%48)):=fun i M W=>by
  have:=rk fo ((i-2) / 48) ((i-2)%48) (by omega) (by omega)
  rwa [show (i-2) / 48*48+(i-2)%48=i-2 by omega]at this
 generalize encF fo=A at b t ⊢;obtain⟨N,Q,B,F⟩:=ny (n:=198) (place:=(a[·]?)) (k:=0) (cells:=Z) (rest:=[(1,.pointer (some l)),(2,.agg A),(3,.slice q3 n3 c3),(4,.slice q4 n4 c4),(5,.map (some gd)),(6,.map (some gh))]) (.pointer (some p)) 0 #[.pointer (some p)] rfl E R (by simp);obtain⟨O,L,u,w⟩:=ny (n:=198) (place:=(a[·]?)) (k:=1) (cells:=N) (rest:=[(2,.agg A),(3,.slice q3 n3 c3),(4,.slice q4 n4 c4),(5,.map (some gd)),(6,.map (some gh))]) (.pointer (some l)) 1 #[.pointer (some l)] rfl z Q (by simp);obtain⟨d,T,I,G⟩:=ny (n:=198) (place:=(a[·]?)) (k:=2) (cells:=O) (rest:=[(3,.slice q3 n3 c3),(4,.slice q4 n4 c4),(5,.map (some gd)),(6,.map (some gh))]) (.agg A) 2 A rfl (by rw[b];exact m) L (by rw[b];omega);obtain⟨c,K,y,H⟩:=ny (n:=198) (place:=(a[·]?)) (k:=3) (cells:=d) (rest:=[(4,.slice q4 n4 c4),(5,.map (some gd)),(6,.map (some gh))]) (q3,n3,c3) 194 #[(q3,n3,c3)] rfl e T (by simp);obtain⟨P,V,D,h⟩:=ny (n:=198) (place:=(a[·]?)) (k:=4) (cells:=c) (rest:=[(5,.map (some gd)),(6,.map (some gh))]) (q4,n4,c4) 195 #[(q4,n4,c4)] rfl g K (by simp);obtain⟨U,J,j,v⟩:=ny (n:=198) (place:=(a[·]?)) (k:=5) (cells:=P) (rest:=[(6,.map (some gh))]) (.map (some gd)) 196 #[.map (some gd)] rfl f V (by simp);obtain⟨Y,X,x,q⟩:=ny (n:=198) (place:=(a[·]?)) (k:=6) (cells:=U) (rest:=[]) (.map (some gh)) 197 #[.map (some gh)] rfl o J (by simp);rw[s];rw[F];rw[w];rw[G];rw[H];rw[h];rw[v];rw[q];rw[Instr.fill];refine zV some ?_;clear F w G H h v q s E z m e g f o;apply xa;intro i;by_cases S:i<198
 .rw[lV _ _ _ _ _ _ _ _ S];simp only[uz,yx,xS,b]at B u I y D j x;rw[x,j,D,y,I,u,B];unfold lR;by_cases M:194<=i
  .have:i=194\/i=195\/i=196\/i=197:=(by omega);rcases this with rfl|rfl|rfl|rfl<;>simp
  .rw[zb (by omega),zb (by omega),zb (by omega),zb (by omega)];by_cases r:i=0
   .subst r;simp
   .by_cases C:i=1
    .subst C;simp
    .rw[ze (by omega),zb r,zb C,ze (by omega),t i (by omega) (by omega)]
 .rw[yd (by omega),yd (by rw[jG];omega)]
theorem WG {E:List Nd} (h:∀x∈E,x.k=0\/x.l≠0):∀n,qw E [] n=[]
 | 0=>rfl
 | n+1=>by
  unfold qw;rw[WG h n];cases b:E[n]? with
  | none=>rfl
  | some x=>
   have:=h x (xU b);have c:m8 x [] (n+1)=false:=by
    unfold m8;rcases this with a|a
    .simp[a]
    .have:(x.l==0)=false:=(by simpa using a);simp[this]
   simp[c]
theorem XL (h:uS w (.pointer (some a)) st k F) (hk:64<=k) (a2:k<=256) (st') (sq)
 (al:∀W,Below w w W->Calls prog 96 #[.pointer (some a),(5:Int),(32:Int)] W fun e w'=>∃gl,e=.returned (.tuple #[.pointer (some ⟨gl,0,none⟩),()])/\LogK a st' k sq F gl W w')
 (hm:sec st.N 0=rB k) (ax:∀n,n<k->∀x∈sec st'.N n,0<=x/\x<=255) (f) (az:jz (sec st'.N) f k) (htr:jy (sec st'.N) (f.nd 0) k) (hq:lQ (sec st'.N 4)) (aq:∀X∈sY (sec st'.N) (f.nd 0) 32,X.k=0\/X.l≠0):
 Calls prog 47 #[.pointer (some a)] w
  (fun e w'=>∃gf F',e=.returned (.tuple #[.pointer (some ⟨gf,0,none⟩),()])/\FsAt w' gf ⟨st',k,sq,f,rn (sec st'.N 4),sY (sec st'.N) (f.nd 0) 32,[],[]⟩ F' a/\yQ F w w'/\(∀i,F' i->F i\/w.heap.size<=i)):=by
 have H:=za h;have av:=Zb h 0 (by omega);rw[hm]at av;have bo:=za av;have aR:=za (fun (W:World) (hW:Below w w W)=>mH (h.below hW));have bm:=za al;have af:=za ax;have bz:=za az;have b3:=za htr;have HQ:=za hq;obtain⟨RL,ai⟩:=zD (rn (sec st'.N 4));have aA:Hid (RL.length<=20):=by show _<=_;rw[<-ai.o];exact (ZY HQ.o.2.2.1).1
 rw[ai.o];have aE:=za aq;have d1:decide ((k:Int)<64)=false:=zz (by omega);have d2:¬((k:Int)<64):=by omega
 have d3:¬(k<64):=by omega
 clear h av al ax az htr hq aq hm;go_enter func47,ntmps47;go_wp2_with fail
 refine bo.o.mono ?_;rintro e w1 ⟨v1,rfl,ah⟩;have ar:=za ah.below;have b9:=za ah.at;clear ah;go_wp2_with fail
 refine (aR.o w1 ar.o).mono ?_;rintro e w2 ⟨rfl,rfl⟩;go_wp2_with fail
 refine (aR.o w1 ar.o).mono ?_;rintro e w2 ⟨rfl,rfl⟩;go_wp2_with fail
 refine (fy k (by omega) w1).mono ?_;rintro e w2 ⟨v2,rfl,J⟩;have bu:=za (zf ar.o J.below);have aj:=za (V1 v1 v2 (rB k) (rB k) w2 (wh.below b9.o J.below) J.at rfl (by rw[Zq];omega));rw[show eqB (rB k) (rB k)=true by unfold eqB;simp]at aj;clear J;go_wp2_with fail
 refine aj.o.mono ?_;rintro e w3 ⟨rfl,aH⟩;have ao:=za (zf bu.o aH);clear aH aj;go_wp2_with fail
 refine (bm.o w3 ao.o).mono ?_;rintro e w4 ⟨gl,rfl,F1,y1,y2,y3,y4,y5,y6⟩;have HY:Hid ((∀i,F1 i->F i\/w3.heap.size<=i)/\¬F1 gl/\yQ F w3 w4/\w4.heap[gl]?=some (.cells (logR a sq) 198)/\w3.heap.size<=gl):=⟨y2,y3,y4,y5,y6⟩;have I:=za y1;have bH:=za (Yv y1 af.o);have g:=XN (Yv y1 af.o) (by omega) f bz.o;obtain⟨A,HA⟩:=zD (encF f);rw[HA.o]at g;have aS:Hid (Calls prog 97 #[.iface 26 (.pointer (some a))] w4 (fun e w'=>e=.returned (.tuple #[.agg A,()])/\Below w4 w4 w')):=g;have aw:Hid (A.size=192):=by rw[<-HA.o];exact uj _
 have bj:Hid (A.all (·.oneCell')=true):=by rw[<-HA.o];exact nx _
 clear y1 y2 y3 y4 y5 y6 g;go_wp2_with fail
 refine aS.o.mono ?_;rintro e C ⟨rfl,aW⟩;have bB:=za aW;clear aW;obtain⟨Z0,aZ⟩:=zA (encF tL);have b5:Hid (∀w,(zeroValue 106).run prog w=.ok (.agg Z0) w):=by rw[aZ.o];exact forZ
 have bE:Hid (Z0.size=192):=by rw[aZ.o];exact uj _
 have au:Hid (((C.alloc (.cells Z0 106)).setRow C A).heap[C.heap.size]?=some (.cells A 106)):=yh _ _ _ _ _ _ (zH);have aC:Hid (Below C C ((C.alloc (.cells Z0 106)).setRow C A)):=xI (zB.alloc zL _) zL _
 go_upto_region 10 with (first
  | (refine oC rfl 106 rfl Z0 b5.o ?_)
  | (refine yG rfl 106 (.tmp 7) (.tmp 48) rfl C A rfl rfl 106 Z0 (zH) (by rw[aw.o];exact forI) (by rw[bE.o,aw.o]) bj.o ?_))
 obtain⟨gF,bl⟩:=zD C.heap.size;have p:=za (zf bB.o aC.o);clear aC;rw[bl.o]at au p ⊢;generalize (C.alloc (.cells Z0 106)).setRow gF A=w6 at *
 obtain⟨TT,HT⟩:=zA (encT f 0);have bA:Hid (TT.size=48):=by rw[HT.o];exact oY _ _
 have bx:Hid (∀j,j<TT.size->A[0+j]?=TT[j]?):=by
  rw[HT.o,<-HA.o];have h2:∀j,j<(encT f 0).size->(encF f)[0+j]?=(encT f 0)[j]? :=by have:=Uq f 0 (by omega);simpa using this
  exact h2
 have htr:=Xo (bH.o.below p.o) f 0 b3.o;rw[<-HT.o]at htr;have V:Hid (Calls prog 77 #[.iface 26 (.pointer (some a)),.agg TT] w6 (fun e w'=>∃v,e=.returned (.tuple #[v,()])/\ja w6 v (sY (sec st'.N) (f.nd 0) 32) w')):=htr;clear htr;go_wp2_with (refine pZ (by kernel_rfl) 104 (.tmp 56) rfl gF 0 rfl 106 A TT (0,0) _ au.o bx.o vy rfl (by rw[bA.o];exact qT) ?_)
 refine V.o.mono ?_;rintro e w7 ⟨v7,rfl,E,t,Q,ay⟩;obtain⟨L,HL⟩:=zD (sY (sec st'.N) (f.nd 0) 32);rw[HL.o]at aE t Q;have O:Hid (L.length=32):=by show _=_;rw[<-HL.o];exact Kx _ _ _
 have Z:E.length=32:=by rw[Q.1,O.o]
 have am:=za t;have an:=za Q;have aP:=za (zf p.o ay);have bq:=za (wy ay au.o);obtain⟨qn,cn,rfl,bb⟩:=tV t;obtain⟨S,rfl,bk,_⟩:=bb (by rw[O.o];omega);have aV:Hid (w6.heap.size<=S/\S<w7.heap.size):=⟨by omega,(t.lt S rfl).2⟩;rw[O.o]at am ⊢;clear ay t Q bb bk;have ae:=za (Zb (I.o.below aP.o) 4 (by omega));have bn:Hid ((sec st'.N 4).length=64):=mI I.o.lens.2 (by omega);have bF:=za (af.o 4 (by omega));go_wp2_with fail
 refine ae.o.mono ?_;rintro e w8 ⟨v8,rfl,M⟩;have aM:=za (zf aP.o M.below);have aU:=za M.below;have a3:=za (Iq v8 (sec st'.N 4) w8 M.at bF.o (by rw[bn.o];omega));clear M;go_wp2_with fail
 refine a3.o.mono ?_;rintro e c (⟨_,u,rfl,hu,ak⟩|⟨bh,_⟩);case inr=>exact zY HQ.o bh
 have bp:=za (zf aM.o ak);have B:=za (zf aU.o ak);rw[ai.o]at hu;obtain⟨qr,cr,rfl,_⟩:=tV hu;obtain⟨nr,ag⟩:=zD RL.length;rw[ag.o]at hu;rw[ag.o];have ba:=za hu;have bw:=za (wy B.o bq.o);clear ak hu a3 ae V;have a7:∀W,(Instr.makeMap 109 none).run prog W=.ok (.map (some W.heap.size)) (W.alloc (.map #[] 0)):=fun _=>rfl;have aK:∀W,(Instr.makeMap 50 none).run prog W=.ok (.map (some W.heap.size)) (W.alloc (.map #[] 0)):=fun _=>rfl;obtain⟨bt,cd⟩:=zD c.heap.size;obtain⟨R,HR⟩:=zD (fsR (.pointer (some a)) (gl,()) f (qr,nr,cr) (.slice (some ⟨S,0,none⟩) 32 cn) (.map (some c.heap.size)) (.map (some (c.heap.size+1))));have b1:Hid (prog.built 111 [(0,.pointer (some a)),(1,.pointer (some ⟨gl,0,none⟩)),(2,.agg A),(3,.slice qr nr cr),(4,.slice (some ⟨S,0,none⟩) 32 cn),(5,.map (some c.heap.size)),(6,.map (some (c.heap.size+1)))]=some R):=by show _=_;rw[<-HA.o,<-HR.o];exact Q0 a ⟨gl,0,none⟩ f qr (some ⟨S,0,none⟩) nr 32 cr cn _ _
 go_wp2_with (first
  | (refine yS rfl 106 (.tmp 7) rfl gF rfl 106 A (0,0) _ bw.o forT rfl (by rw[aw.o];exact forI) ?_)
  | (refine tf rfl fun K hK=>Ip 111 _ rfl #[(0,.pointer (some a)),(1,.pointer (some ⟨gl,0,none⟩)),(2,.agg A),(3,.slice qr nr cr),(4,.slice (some ⟨S,0,none⟩) 32 cn),(5,.map (some c.heap.size)),(6,.map (some (c.heap.size+1)))] (by simp only[uN,yF,vY,Act.eval];rfl) R b1.o (hK _ _ ?_))
  | (refine tf rfl fun K hK=>Wh 111 (.tmp 83) rfl R rfl (hK _ _ ?_)))
 have ac:Hid (Below c c (((c.alloc (.map #[] 0)).alloc (.map #[] 0)).alloc (.cells R 111))):=((zB.alloc zL _).alloc (by simp) _).alloc (by simp;omega) _;have ap:(c.alloc (.map #[] 0)).heap.size=c.heap.size+1:=by simp
 have D:((c.alloc (.map #[] 0)).alloc (.map #[] 0)).heap.size=c.heap.size+1+1:=by simp
 have a9:Hid ((((c.alloc (.map #[] 0)).alloc (.map #[] 0)).alloc (.cells R 111)).heap[c.heap.size+1+1]?=some (.cells R 111)):=by rw[<-D];exact zH
 have a0:Hid (MapL prog 3 (((c.alloc (.map #[] 0)).alloc (.map #[] 0)).alloc (.cells R 111)) c.heap.size []):=(tH c).of_block ((uk _ _ (by rw[D];omega)).trans (uk _ _ (by rw[ap];omega)));have aF:Hid (MapL prog 3 (((c.alloc (.map #[] 0)).alloc (.map #[] 0)).alloc (.cells R 111)) (c.heap.size+1) []):=by have:=tH (P:=prog) (K:=3) (c.alloc (.map #[] 0));rw[ap]at this;exact this.of_block (uk _ _ (by rw[D];omega))
 have a1:Hid ((((c.alloc (.map #[] 0)).alloc (.map #[] 0)).alloc (.cells R 111)).heap.size=c.heap.size+1+1+1):=by show _=_;simp
 clear ap D a7 aK;generalize ((c.alloc (.map #[] 0)).alloc (.map #[] 0)).alloc (.cells R 111)=b6 at *
 have ab:=za (zf B.o ac.o);have aB:=za (tB am.o ab.o);have m:∀x∈E,x.k=0\/x.l≠0:=fun x hx=>by
  obtain⟨i,d,rfl⟩:=uE.1 hx;have a4:i<L.length:=by rw[<-an.o.1];exact d
  obtain⟨f0,f1,f2,f3,f4,f5,_⟩:=an.o.2 i d a4;rw[f0,f5];exact aE.o _ (zx a4)
 have g:=RU (.slice (some ⟨S,0,none⟩) 32 cn) (.slice none 0 0) E [] b6 (by rw[Z];exact wh.of_owns aB.o) ⟨rfl,zr ⟨rfl,_,_,rfl⟩⟩ (by omega) (by simp);rw[WG m]at g;have aI:=za g;clear g m;go_wp2_with fail
 refine aI.o.mono ?_;rintro e b0 ⟨r,rfl,U,T⟩;obtain⟨qx,cx,rfl,_⟩:=tV U;have aT:=za T;clear U T aI;rw[show (([]:List Int).length)=0 from rfl];go_wp2;go_loopw [88] (fun iv wq=>iv=.int .i64 0/\wq=b0) (fun _ _=>0);case atStart=>exact⟨rfl,rfl⟩
 case round=>
  obtain⟨rfl,bv⟩:=hrel;subst bv;go_wp2;go_ret2;have q:=aT.o;have aa:=zf ac.o q;have Y:=zf ab.o q;have s:=zf bp.o aa;have b2:=p.o.size;have bV:w6.heap.size<=w7.heap.size:=by have:=aV.o;omega
  have cc:=B.o.size;have bL:c.heap.size+1+1+1<=wr.heap.size:=by rw[<-a1.o];exact q.size
  have aG:=xR HY.o.2.2.2.1;have hD:=I.o.below s;have z:=I.o.fin;have a5:∀i,(F1 i\/i=gl\/i=c.heap.size+1+1\/i=c.heap.size\/i=c.heap.size+1)->i<w6.heap.size\/w7.heap.size<=i:=fun i d=>by
   rcases d with d|rfl|rfl|rfl|rfl
   .exact zr (zo (z i d) b2)
   .exact zr (by omega)
   .exact zu (by omega)
   .exact zu (by omega)
   .exact zu (by omega)
  have b4:∀i,(F1 i\/i=gl\/i=c.heap.size+1+1\/i=c.heap.size\/i=c.heap.size+1)->i<wr.heap.size:=fun i d=>by
   rcases d with d|rfl|rfl|rfl|rfl
   .have:=z i d;omega
   .omega
   .omega
   .omega
   .omega
  have aN:=ao.o.size;have ad:=wy q a9.o;rw[<-HR.o]at ad;refine⟨c.heap.size+1+1,fun i=>F1 i\/i=gl\/i=c.heap.size+1+1\/i=c.heap.size\/i=c.heap.size+1,rfl,⟨⟨gl,_,_,c.heap.size,c.heap.size+1,E,[],F1,ad,hD,fun i d=>zr d,HY.o.2.1,wy s HY.o.2.2.2.1,zu (zr rfl),?_,?_,?_,a0.o.of_block (q.block _ a0.o.lt),⟨tu.nil _ _,fun y hy=>zY hy yK⟩,zu (zu (zu (zr rfl))),by omega,fun hc=>by have:=z _ hc;omega,aF.o.of_block (q.block _ aF.o.lt),zu (zu (zu (zu rfl))),fun hc=>by have:=z _ hc;omega⟩,zu (zu (zr rfl)),by rw[HL.o];exact O.o,b4,⟨ye _,fun y hy=>zY hy yK⟩,hk,a2,aA.o⟩,?_,fun i d=>?_⟩
  .have h8:=aM.o.size;have h1:=fq (G:=fun i=>i<w8.heap.size) ba.o (fun b hb hc=>by have:=(ba.o.lt b hb).1;omega);have h2:=ZJ (F':=fun i=>F1 i\/i=gl\/i=c.heap.size+1+1\/i=c.heap.size\/i=c.heap.size+1) h1 (yQ.of_below aa) fun i d=>by
    rcases d with d|rfl|rfl|rfl|rfl
    .exact zr (zo (z i d) h8)
    .exact zr (zo aG h8)
    .exact zu (by omega)
    .exact zu (by omega)
    .exact zu (by omega)
   refine h2.mono fun W hh=>?_;show wh W (qr,nr,cr) 2 RL.length (wY RL);rw[ag.o];exact wh.of_owns hh
  .have h1:=fq (G:=fun i=>i<w6.heap.size) am.o (fun b hb=>by injection hb with hb;rw[<-hb];have:=aV.o.1;show ¬(S<_);omega);have h2:=ZJ h1 (yQ.of_below Y) a5;rw[Z];exact h2.mono fun _ hh=>wh.of_owns hh
  .rw[HL.o];exact iY an.o (yQ.of_below Y) fun i d=>(a5 i d).imp (fun h=>zr h) id
  .exact ((yQ.of_below ao.o).step HY.o.2.2.1).step (yQ.of_below s)
  .rcases d with d|rfl|rfl|rfl|rfl
   .exact (HY.o.1 i d).imp id fun h=>zt aN h
   .exact zu (zt aN HY.o.2.2.2.2)
   all_goals exact zu (by have:=HY.o.2.2.1.size;omega)
theorem Yf (h:st.fu = -1) (n) (D):(se st n D).fu = -1/\(se st n D).N=putS st.N n D:=by unfold se;rw[zb (by rw[h];decide)];refine⟨?_,rfl⟩;show decF st.fu = -1;rw[h];rfl
theorem zE_at (k):∀j,j<=k->(zE (uZ k) j).fu = -1/\(zE (uZ k) j).N.length=64*k/\∀n,n<k->sec (zE (uZ k) j).N n=rE
 | 0,_=>⟨rfl,by show (List.replicate _ _).length=_;simp,fun n b=>by
  show sec (List.replicate (64*k) 0) n=rE;unfold sec rE;rw[List.drop_replicate,List.take_replicate]
  congr 1
  omega⟩
 | j+1,h=>by
  obtain⟨f,c,g⟩:=zE_at k j (by omega);obtain⟨e,d⟩:=Yf f j rE;refine⟨e,?_,fun n b=>?_⟩
  .show (se (zE (uZ k) j) j rE).N.length=_;rw[d];exact jE c (by omega) (by simp[rE])
  .show sec (se (zE (uZ k) j) j rE).N n=_;rw[d];by_cases a:n=j
   .subst a;exact VW c b (by simp[rE])
   .rw[Yg c (by omega) b (by simp[rE]) a];exact g n b
theorem ir (k) (p:64<=k) (b) (o:b.length=192):∀j,j<=3->(fE (zE (uZ k) k) b j).fu = -1/\(fE (zE (uZ k) k) b j).N.length=64*k/\∀n,n<k->sec (fE (zE (uZ k) k) b j).N n=if 1<=n/\n<1+j then sec b (n-1) else rE
 | 0,_=>by obtain⟨f,a,g⟩:=zE_at k k zL;exact⟨f,a,fun n d=>by rw[zb (by omega)];exact g n d⟩
 | j+1,m=>by
  obtain⟨f,a,g⟩:=ir k p b o j (by omega);have e:(sec b j).length=64:=mI (k:=3) o (by omega);obtain⟨l,i⟩:=Yf f (1+j) (sec b j);refine⟨l,?_,fun n d=>?_⟩
  .show (se (fE (zE (uZ k) k) b j) (1+j) (sec b j)).N.length=_;rw[i];exact jE a (by omega) e
  .show sec (se (fE (zE (uZ k) k) b j) (1+j) (sec b j)).N n=_;rw[i];by_cases c:n=1+j
   .subst c;rw[VW a d e,ze (by omega),show 1+j-1=j by omega]
   .rw[Yg a (by omega) d e c,g n d];by_cases h:1<=n/\n<1+j
    .rw[ze h,ze (by omega)]
    .rw[zb h,zb (by omega)]
def fmtS (k n:Nat):List Int:=if n=0 then rB k else if n=37 then qv else if 1<=n/\n<4 then sec (uH (ub 16)) (n-1) else rE
theorem Y4 (k) (o:64<=k) (n) (m:n<k):sec (fmtE (uZ k) k).N n=fmtS k n:=by
 obtain⟨j,d,l⟩:=ir k o (uH (ub 16)) (Zp _) 3 (by omega);obtain⟨h,c⟩:=Yf j 37 qv;obtain⟨i,g⟩:=Yf h 0 (rB k);have b:(se (fE (zE (uZ k) k) (uH (ub 16)) 3) 37 qv).N.length=64*k:=by rw[c];exact jE d (by omega) Zl
 have f:(fmtE (uZ k) k).N=putS (putS (fE (zE (uZ k) k) (uH (ub 16)) 3).N 37 qv) 0 (rB k):=by unfold fmtE pU;rw[zb (by rw[i];decide)];show (se (se (fE (zE (uZ k) k) (uH (ub 16)) 3) 37 qv) 0 (rB k)).N=_;rw[g,c]
 rw[f,<-c];unfold fmtS;by_cases e:n=0
 .subst e;rw[ze rfl,VW b m (Zq k)]
 .rw[zb e,Yg b (by omega) m (Zq k) e,c];by_cases a:n=37
  .subst a;rw[ze rfl,VW d m Zl]
  .rw[zb a,Yg d (by omega) m Zl a,l n m]
theorem Ys (k) (i:64<=k):(fmtE (uZ k) k).fu = -1/\(fmtE (uZ k) k).W=[]/\(fmtE (uZ k) k).N.length=64*k/\(fmtE (uZ k) k).S=(fmtE (uZ k) k).N:=by
 obtain⟨f,e,h⟩:=ir k i (uH (ub 16)) (Zp _) 3 (by omega);obtain⟨d,g⟩:=Yf f 37 qv;obtain⟨b,c⟩:=Yf d 0 (rB k);have a:(se (fE (zE (uZ k) k) (uH (ub 16)) 3) 37 qv).N.length=64*k:=by rw[g];exact jE e (by omega) Zl
 unfold fmtE pU;rw[zb (by rw[b];decide)];refine⟨?_,rfl,?_,rfl⟩
 .show decF _ = -1;rw[b];rfl
 .show (se (se (fE (zE (uZ k) k) (uH (ub 16)) 3) 37 qv) 0 (rB k)).N.length=_;rw[c];exact jE a (by omega) (Zq k)
def nZ : Pn:=⟨2,493,0,0,0,1,1,[]⟩
def oo : List Pn:=nZ::List.replicate 31 zN
theorem Qt: pnOf (half qv 0)=nZ:=by kernel_rfl
theorem Qs (i) (a:i<2):half rE i=List.replicate 32 0:=by
 have:i=0\/i=1:=by omega
 rcases this with rfl|rfl<;>rfl
theorem TG: pnOf (List.replicate 32 0)=zN:=by kernel_rfl
theorem So: encF (foB (uH (ub 16)))=encF (ub 16):=by kernel_rfl
theorem Qr: qa (foB (uH (ub 16)))=0:=by kernel_rfl
theorem OT: vO (ub 16) 0=true:=by kernel_rfl
theorem WZ: vO (ub 16) 1=false/\vO (ub 16) 2=false/\vO (ub 16) 3=false:=⟨by kernel_rfl,by kernel_rfl,by kernel_rfl⟩
theorem NG: mh (half qv 0):=⟨by kernel_rfl,by unfold mi;decide,by kernel_rfl,by kernel_rfl⟩
theorem Pc: mh (List.replicate 32 0):=⟨by kernel_rfl,by unfold mi;decide,by kernel_rfl,by kernel_rfl⟩
theorem KY: lQ rE:=⟨by kernel_rfl,by decide,by kernel_rfl,by kernel_rfl⟩
theorem Pb: rn rE=[]:=by kernel_rfl
theorem hY (k n) (a:n≠0):fmtS k n=fmtS 64 n:=by unfold fmtS;rw[zb a,zb a]
theorem Uv (k n) (h:4<=n) (a:n≠37):fmtS k n=rE:=by unfold fmtS;rw[zb (by omega),zb a,zb (by omega)]
theorem Z3 (i) (a:i<16):(ub 16).nd 0 i=((37+i:Nat)):=by show (if 0=0/\i<16 then _ else _)=_;rw[ze ⟨rfl,a⟩]
theorem Vd (k) (j) (c:j<32):nn (fmtS k) ((ub 16).nd 0) j=if j=0 then half qv 0 else List.replicate 32 0:=by
 unfold nn;rw[Z3 _ (by omega),yz];by_cases a:j=0
 .subst a;rw[ze rfl];rfl
 .rw[zb a];by_cases b:j=1
  .subst b;show half qv 1=_;unfold half qv;rw[ur (by rw[Vw];omega),yP (by rw[Vw];omega)];rfl
  .rw[Uv k _ (by omega) (by omega)];exact Qs _ (by omega)
theorem Ra (k) (b:64<=k):jy (fmtS k) ((ub 16).nd 0) k:=by
 refine⟨fun j a=>?_,fun j a=>?_⟩
 .rw[Z3 j a];omega
 .rw[Vd k j a];split
  .exact NG
  .exact Pc
theorem Ph (k):sY (fmtS k) ((ub 16).nd 0) 32=oo:=by
 unfold sY oo;apply tI
 .simp
 .intro i a c;have b:i<32:=by simpa using a
  rw[uO,List.getElem_range,Vd k i b];cases i with
  | zero=>exact Qt
  | succ i=>
   rw[zb (by omega),List.getElem_cons_succ,List.getElem_replicate];exact TG
theorem WY (k):sS (fmtS k)=uH (ub 16):=by
 unfold sS;rw[hY k 1 (by omega),hY k 2 (by omega),hY k 3 (by omega)];show sec (uH (ub 16)) 0++(sec (uH (ub 16)) 1++sec (uH (ub 16)) 2)=_
 kernel_rfl
theorem RZ (k) (g:64<=k):jz (fmtS k) (ub 16) k:=by
 refine⟨by rw[WY];exact So,by rw[WY];exact Qr,OT,fun t i f e a=>?_⟩;obtain⟨c,b,d⟩:=WZ;have:t=0\/t=1\/t=2\/t=3:=by omega
 rcases this with rfl|rfl|rfl|rfl
 .rw[Z3 i e];omega
 .rw[c]at a;cases a
 .rw[b]at a;cases a
 .rw[d]at a;cases a
section
variable {N : Nat->List Int} {k : Nat}
theorem XM (b:64<=k) (a:∀n,n<k->N n=fmtS k n):jz N (ub 16) k:=by
 have h:=RZ k b;have e:sS N=sS (fmtS k):=by unfold sS;rw[a 1 (by omega),a 2 (by omega),a 3 (by omega)]
 exact⟨by rw[e];exact h.eq,by rw[e];exact h.right,h.root,h.nds⟩
theorem Vc (b:64<=k) (a:∀n,n<k->N n=fmtS k n) (j) (c:j<32):nn N ((ub 16).nd 0) j=nn (fmtS k) ((ub 16).nd 0) j:=by unfold nn;rw[Z3 _ (by omega),yz,a _ (by omega)]
theorem Xn (b:64<=k) (c:∀n,n<k->N n=fmtS k n):jy N ((ub 16).nd 0) k:=by have h:=Ra k b;exact⟨h.1,fun j a=>by rw[Vc b c j a];exact h.2 j a⟩
theorem Kw (b:64<=k) (c:∀n,n<k->N n=fmtS k n):sY N ((ub 16).nd 0) 32=oo:=by rw[<-Ph k];unfold sY;refine xY fun j a=>?_;rw[Vc b c j (by simpa using a)]
theorem TH (l:64<=k):kL ((ub 16).nd 0) oo ((ub 16).hs 0) k:=by
 have d:pu ((ub 16).nd 0) 16=(List.range 16).map (37 + ·):=by kernel_rfl
 have e:sR oo=[]:=by kernel_rfl
 refine⟨by rw[d,e];decide,fun i c=>?_,fun x a p b=>?_,fun m j=>?_,fun x a=>?_⟩
 .rw[Z3 i c];omega
 .unfold oo at a;rcases yD.1 a with rfl|a
  .cases b
  .rw[xV a]at b;cases b
 .rw[d,e,yX,J4];show _=(decide (0=0)&&decide (37<=m)&&decide (m<37+16));rw[ya rfl,uf];by_cases h:37<=m/\m<37+16
  .rw[ya h.1,ya h.2,ya]
   .rfl
   .exact zU.2 ⟨m-37,yH.2 (by omega),by omega⟩
  .rw[zz]
   .by_cases f:37<=m
    .rw[zz (by omega:¬m<37+16),ik]
    .rw[zz f,Bool.false_and]
   .intro g;obtain⟨i,c,rfl⟩:=zU.1 g;have:=yH.1 c;omega
 .unfold oo at a;rcases yD.1 a with rfl|a
  .decide
  .rw[xV a];decide
theorem Yb (i) (a:i<32):oo.getD i zN=if i=0 then nZ else zN:=by
 unfold oo;cases i with
 | zero=>rfl
 | succ i=>
  rw[zb (by omega),List.getD_cons_succ,zi,xf,ze (by omega)];rfl
theorem KE: po N oo=[]:=by unfold po;rw[Yb 0 (by omega),ze rfl];rfl
theorem O7 (f:64<=k) (g:∀n,n<k->N n=fmtS k n):Zc N (ub 16) 0 k oo:=by
 refine⟨Xn f g,Kw f g,TH f,by rw[Yb 0 (by omega),ze rfl];decide,by rw[KE];kernel_rfl,?_,by rw[Yb 0 (by omega),ze rfl];rfl,fun i b=>?_⟩
 .rw[KE,show outD []=[] by kernel_rfl];refine⟨by simp[oo],fun i h=>?_,fun x d=>(by cases d),by simp⟩;have b:i<32:=by simpa[oo]using h
  have:=Yb i b;rw[zi,zh h,uK]at this;rw[this];by_cases a:i=0
  .rw[ze a];simp[a,nZ]
  .rw[zb a];simp[a,zN]
 .rw[KE,show outD []=[] by kernel_rfl,Yb i b];by_cases a:i=0
  .subst a;rw[ze rfl];exact⟨by kernel_rfl,fun h=>by cases h⟩
  .rw[zb a];have e:qX [] i=0:=(by unfold qX;rw[zb a];have c:qq []=List.replicate 32 0:=(by kernel_rfl);rw[c,zi,xf,ze b];rfl);rw[e];exact⟨rfl,fun _=>by omega⟩
theorem fine_new (g:64<=k) (f:∀n,n<k->N n=fmtS k n):lT N (ub 16) k:=by
 refine⟨by rw[f 0 (by omega)];rfl,XM g f,by rw[f 4 (by omega),Uv k 4 (by omega) (by omega)];exact KY,fun t e a=>?_⟩;obtain⟨c,b,d⟩:=WZ;have:t=0\/t=1\/t=2\/t=3:=by omega
 rcases this with rfl|rfl|rfl|rfl
 .exact⟨oo,O7 g f⟩
 .rw[c]at a;cases a
 .rw[b]at a;cases a
 .rw[d]at a;cases a
end
def fs0 (k:Nat):Fs:=⟨fmtE (uZ k) k,k,0,ub 16,[],oo,[],[]⟩
theorem fU (k n) (e:k<=256):∀x∈fmtS k n,0<=x/\x<=255:=by
 have b:∀l:List Int,(l.all fun x=>decide (0<=x)&&decide (x<=255))=true->∀x∈l,0<=x/\x<=255:=fun l h x a=>by have:=yW.1 h x a;simpa using this
 have d:(rE.all fun x=>decide (0<=x)&&decide (x<=255))=true:=by kernel_rfl
 unfold fmtS;split
 .intro x a;unfold rB at a;have c:=b (over (List.replicate 64 0) 0 (bI mY)) (by kernel_rfl);rcases vv a with a|rfl
  .rcases vv a with a|rfl
   .exact c x a
   .omega
  .omega
 .split
  .exact b _ (by kernel_rfl)
  .split
   .next h=> 
    have:n=1\/n=2\/n=3:=(by omega);rcases this with rfl|rfl|rfl<;>exact b _ (by kernel_rfl)
   .exact b _ d
theorem Ih {N:List Int} (d:N.length=64*k) (h:∀n,n<k->un (sec N n)):un N:=fun x c=>by obtain⟨q,a⟩:=vg.1 c;have b:=(zJ.1 a).1;refine h (q / 64) (by omega) x (vg.2 ⟨q%64,?_⟩);unfold sec;rw[vD (by omega),yw,show 64*(q / 64)+q%64=q by omega];exact a
theorem KO (k:Nat) (hk:64<=k) (aa:k<=256) (w):
 Calls prog 17 #[k] w
  (fun e w'=>∃gf a F,e=.returned (.tuple #[.pointer (some ⟨gf,0,none⟩),.pointer (some a)])/\FsAt w' gf (fs0 k) F a/\Below w w w'/\(∀i,F i->w.heap.size<=i)):=by
 have HN:=za (TR k (k:Int) rfl (by omega) aa w);obtain⟨Z,P,J,Y⟩:=Ys k hk;have b:=Y4 k hk;have m:sec (fmtE (uZ k) k).N 5=rE:=by rw[b 5 (by omega),Uv k 5 (by omega) (by omega)]
 have f:sec (fmtE (uZ k) k).N 4=rE:=by rw[b 4 (by omega),Uv k 4 (by omega) (by omega)]
 have j:na (fmtE (uZ k) k).N=false:=by unfold na hB;rw[m];rfl
 have c:qW (fmtE (uZ k) k).N=[]:=by unfold qW okO;rw[j];rfl
 have q:lr (fmtE (uZ k) k)=fmtE (uZ k) k:=by unfold lr;rw[c];rfl
 have r:seqO (fmtE (uZ k) k).N=0:=by unfold seqO;rw[j];rfl
 have s:=Ih J fun n D=>by rw[b n D];exact fU k n aa
 have l:rn (sec (fmtE (uZ k) k).N 4)=[]:=by rw[f];exact Pb
 have I:=za (fun (W:World) (a:Addr) (F:Nat->Prop) (h:uS W (.pointer (some a)) (fmtE (uZ k) k) k F)=>XL h hk aa (fmtE (uZ k) k) 0 (fun W' B=>by have T:=XI hk aa (h.below B) s (by rw[c];intro x hx;cases hx) (by rw[P];show 0<900000;omega);rw[q,r]at T;exact T)
  (by rw[b 0 (by omega)];rfl) (fun n D=>by rw[b n D];exact fU k n aa) (ub 16) (XM hk b) (Xn hk b) (by rw[f];exact KY) (by
   rw[Kw hk b];intro X t;unfold oo at t;rcases yD.1 t with rfl|t
   .right;decide
   .left;rw[xV t];rfl))
 rw[Kw hk b,l]at I;clear Z P J Y b m f j c q r s l;go_enter func17,ntmps17;go_wp2_with fail
 refine HN.o.mono ?_;rintro e w1 ⟨d,F,rfl,u,S,K,v⟩;obtain⟨a,rfl⟩:=u.ptr;have O:=za S;have A:=za K;have z:=za (OO u hk aa (by simp[uZ]));clear u S K v;go_wp2_with fail
 refine z.o.mono ?_;rintro e w2 ⟨rfl,L,M,V,Q⟩;have y:=za (I.o w2 a L M);have g:=za (A.o.trans (Q.to_below O.o A.o.size));have p:Hid (∀i,L i->w.heap.size<=i):=fun i C=>(V i C).elim (O.o i) (fun h=>zt A.o.size h);clear M V Q;go_wp2_with fail
 refine y.o.mono ?_;rintro e H ⟨gf,E,rfl,R,G,U⟩;have HX:Hid (FsAt H gf (fs0 k) E a/\Below w w H/\∀i,E i->w.heap.size<=i):=⟨R,g.o.trans (G.to_below p.o g.o.size),fun i C=>(U i C).elim (p.o i) (fun h=>zt g.o.size h)⟩;clear R G U;go_wp2;go_ret2;exact⟨gf,a,E,rfl,HX.o⟩
theorem PP (v) (D) (w) (h:sx w v D) (Y:D.length<=1000) (p n:Nat) (hn:n<=512) (Z:0<n) (hp:p<=1000000):
 Calls prog 78 #[v,p,n] w (fun e w'=>∃v',e=.returned v'/\vQ w' v' (nj D p n)/\(∀b,v'.ownBlock=some b->w.heap.size<=b)/\Below w w w'):=by
 obtain⟨N,c⟩:=zD D.length;obtain⟨q,s,rfl⟩:=l9 h.1 N c.o;have B:=h.2 q N s rfl;have S:=za h;rw[c.o]at Y;clear h;by_cases u:N<=p
 .have F:decide (N<=(p:Int))=true:=ya (by omega);have A:N<=(p:Int):=by omega
  have T:Hid (nj D p n=[]):=by show _=_;unfold nj;rw[vN (by rw[c.o];exact u)];simp
  go_enter func78,ntmps78
  go_wp2;go_ret;rw[T.o];exact⟨_,rfl,⟨rfl,zr ⟨rfl,_,_,rfl⟩⟩,fun b r=>(by cases r),zB⟩
 .have F:decide (N<=(p:Int))=false:=zz (by omega);have A:¬N<=(p:Int):=by omega
  have X:=zW (p+n) (by omega);obtain⟨m,t,i⟩:∃m:Nat,min N (p+n)=m/\(m<=N/\m<=p+n/\(m=N\/m=p+n)):=⟨_,rfl,by omega⟩;have d:m-p=min n (N-p):=by omega
  rw[<-t]at d i;have k:0<min n (N-p):=by omega
  have M:p<=m:=by omega
  have K:m<=s:=by omega
  obtain⟨_,⟨V,_⟩|⟨g,o,G,y,z⟩⟩:=id S.o.1
  .have:=c.o;omega
  injection y with Q J R;subst Q R;clear J;have l:=za (Zt (g,o+p,(min N (p+n)-p),(s-p)) (nj D p n) w ⟨by rw[uo,uq],zu ⟨g,o+p,s-p,by unfold nj;rw[zj,yB,c.o];rw[d],fun j x f=>by
   unfold nj at f;rw[oV,zI]at f;split at f
   .rw[mL,yw]at f;have:=z (p+j) x f
    rwa [<-yC]at this
   .cases f⟩⟩ (by unfold nj;rw[zj,yB,c.o];omega) (by unfold nj;rw[zj,yB,c.o];omega))
  rw[show min N (p+n)=(min (N:Int) ((p:Int)+(n:Int))).toNat by omega]at l;clear i d k z;go_enter func78,ntmps78;go_wp2_with fail
  refine l.o.mono ?_;rintro e U ⟨H,rfl,a⟩;have E:=za a.below;have I:=za a.at;have O:Hid (∀b,H.ownBlock=some b->w.heap.size<=b):=by obtain⟨L,W,_,y,C,_⟩:=a;intro b r;rw[y]at r;have P:L=b:=(by simpa[Value.ownBlock]using r);have:=C.1;omega
  clear a;go_wp2;go_ret;exact⟨_,rfl,I.o,O.o,E.o⟩
theorem IP {gf:Nat} {s:Fs} (h:FsAt w gf s F a) (aa:le s) (i:Nat) (hi:i<32) (X) (hX:s.nodes[i]?=some X) (hk:X.k=1) (hP:ml X.P s.k) (ae:X.P.length<=8) (hs:0<=X.s/\X.s<=512)
 (p n:Nat) (hn:n<=512) (ag:0<n) (hp:p<=1000000):
 Calls prog 34 #[(gf,()),.int .i64 (i+1),p,n] w
  (fun e w'=>∃v,e=.returned (.tuple #[v,()])/\vQ w' v (nj (tO (secE s) X.P X.s) p n)/\(∀b,v.ownBlock=some b->w.heap.size<=b)/\Below w w w'):=by
 have j:=za (ZL h i hi X hX);rw[hk,zb (by omega),ze rfl]at j;obtain⟨gn,on,cn,N,J,K,I,S,O,e1,e2,e3,e4,Y,e6,e7,L⟩:=oX h i hi X hX;have i1:IntKind.i64.wrap (i+1-1)=i:=by rw[zQ _ (by omega)];omega
 have f:=Vg (Yo h aa) X.k X.m X.u X.g X.s X.l X.up (N,J,K) X.P L.now ae hP hs.1 hs.2;have c:Hid (Calls prog 79 #[.iface 96 (.agg #[(gf,())]),.agg #[X.k,X.m,X.u,X.g,X.s,X.l,X.up,(N,J,K)]] w
  (fun e w'=>∃v',e=.returned v'/\w'.ownsRow (w.heap.size+1) 5 1 v' (tO (secE s) X.P X.s).length (u8s (tO (secE s) X.P X.s))/\Below w w w')):=f
 have t:=Vh (secE s) X.P X.s;obtain⟨D,T⟩:=zD (tO (secE s) X.P X.s);rw[T.o]at c t ⊢;rw[hk]at c O;have G:Hid (D.length<=1000):=za (by omega);have p1:decide ((p:Int)<0)=false:=zz (by omega);have Z:decide ((n:Int)<0)=false:=zz (by omega);have U:decide (512<(n:Int))=false:=zz (by omega);have W:¬((p:Int)<0):=by omega
 have V:¬((n:Int)<0):=by omega
 have p6:¬(512<(n:Int)):=by omega
 have p7:¬(512<n):=by omega
 clear h aa hX hP hs t L f hk;go_enter func34,ntmps34;go_wp2_with fail
 refine j.o.mono ?_;rintro e H ⟨rfl,rfl⟩;go_wp2_with fail
 refine c.o.mono ?_;rintro e H ⟨R,rfl,C,x⟩;have q:=za x;have z:=za (PP R D H ⟨wh.of_owns C,jA C⟩ G.o p n hn ag hp);clear C x;go_wp2_with fail
 refine z.o.mono ?_;rintro e w2 ⟨M,rfl,d,y,r⟩;have B:=za d;have A:Hid (∀b,M.ownBlock=some b->w.heap.size<=b):=fun b Q=>zt q.o.size (y b Q);have E:=za (zf q.o r);clear d r y;go_wp2;go_ret2;exact⟨M,rfl,B.o,A.o,E.o⟩
