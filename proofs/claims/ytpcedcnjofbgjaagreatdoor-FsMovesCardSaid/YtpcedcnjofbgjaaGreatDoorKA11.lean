import Derived.Test.YtpcedcnjofbgjaaGreatDoorKA7
import Derived.Test.YtpcedcnjofbgjaaGreatDoorKA9
import Derived.Test.YtpcedcnjofbgjaaGreatDoorKA10
import Derived.Shelf.Slices.In.SortNone
import Derived.Sort.OwnSortedInts
import Derived.Laws.Rows
set_option maxHeartbeats 0
set_option linter.all false
set_option maxRecDepth 100000
namespace Go.Proofs.YtpcedcnjofbgjaaGreatDoor
open Go.Proofs.Tryz Go.RowKit Go.Sort
def srtI (l:List Int):List Int:=l.mergeSort λx y=>decide (x<=y)
theorem lP (l):(srtI l).Perm l:=MF _ _
theorem X6 (v) (l) (base) (w) (h:w.ownsRow base 3 1 v l.length (ints l)) (x:l.length<=1000000):
 Calls prog 97 #[v] w <|ρ (.tuple #[]) λw'=>w'.ownsRow base 3 1 v l.length (ints (srtI l))/\w.grownBy w' v.ownBlock:=by
 have a:=(lP l).length_eq;obtain⟨t,⟨rfl,q⟩|⟨g,d,m,rfl,k,f,s,r,p,j⟩⟩:=h
 .have c:=yz.1 q;subst c;refine (Any.slices_Sort_int_none Tryz.lays189 none 0 w).mono λe w' ⟨i,b⟩=>⟨i,?_,?_⟩
  .rw[b];have e:=yz.1 a;rw[e];exact yL _ _ _ _
  .rw[b];exact⟨rfl,rfl,rfl,zL,λ_ _ _=>rfl⟩
 .rw[vB]at j;have o:=holds_of_blockI f j;refine (Any.slices_Sort_int Tryz.lays189 g 0 d l w o (xB f) (by omega)).mono λe w' ⟨i,n,u,b⟩=>⟨i,?_,?_⟩
  .rw[b];exact ownsRow_sortedI (by simp) k f s r p
  .rw[b];exact grownBy_sortedI _
end Go.Proofs.YtpcedcnjofbgjaaGreatDoor
namespace Go.Proofs.YtpcedcnjofbgjaaGreatDoor
open Go.Proofs.Tryz
variable {P:List Int} {b g k m n:Nat} {e:TypeId} {v:Value} {w:World} {xs:List Value}
def nzF (l:List Int):List Int:=l.filter λp=> !(p==0)
theorem Oz (a b):nzF (a++b)=nzF a++nzF b:=by unfold nzF;exact qh a b
theorem Vo (l):(nzF l).length<=l.length:=vJ _ _
def resP (P:List Int) (K:Nat):List Int:=P.take K++List.replicate (K-P.length) 0
def pR (P:List Int) (K:Nat):List Int:=nzF (P.drop K).reverse
def ZI (P:List Int) (K:Nat) (s sz:Int):Int:=if sz<s/\sz%64≠0/\(resP P K).getD (K-1) 0≠0 then sz%64 else 0
def blkN (sz:Int):Nat:=(jy sz).toNat
theorem j5 (sz):jy sz=(blkN sz):=by unfold blkN jy;split<;>omega
theorem Mh {sz:Int} (h:sz<=512):blkN sz<=8:=by unfold blkN jy;split<;>omega
theorem FF {a:Int} (h:0<a):0<blkN a:=by unfold blkN jy;split<;>omega
theorem nQ (P) (K):(resP P K).length=K:=by unfold resP;rw[zl,Ni,xt];omega
theorem EE {K:Nat} (h:K<=P.length):resP P K=P.take K:=by unfold resP;rw[show K-P.length=0 by omega];simp
theorem UN (P) (K):(pR P K).length<=P.length:=by refine zv (Vo _) ?_;rw[uJ,Nk];omega
theorem Dw (P:List Int) (n) (hn):(P.drop n).reverse=(P.drop (n+1)).reverse++[P[n]]:=by rw[yR hn,wk]
theorem mA {k m u g s l up:Int} (h:tm k m u g s l up P=0) (o:k≠0):(0<=s/\s<=512)/\mT P=0/\P.length=blkN s/\∀(P') (s'),0<=s'->s'<=512->mT P'=0->P'.length=blkN s'->tm k m u g s' l up P'=0:=by
 unfold tm at h;rw[zb o]at h;split at h
 .omega
 rename_i d;split at h
 .omega
 rename_i i;split at h
 .omega
 rename_i e;split at h
 .rename_i c;exact yi h c
 rename_i c;split at h
 .omega
 rename_i n;refine⟨by omega,by omega,?_,λP' s' a b j f=>?_⟩
 .have:=j5 s;omega
 .have:=j5 s';unfold tm;rw[zb o,zb d,zb (by omega),zb e,zb (by omega),zb (by omega)]
theorem X2 (P) (K) (s sz):0<=ZI P K s sz/\ZI P K s sz<64/\(ZI P K s sz=0\/(ZI P K s sz=sz%64/\sz<s)):=by
 unfold ZI;split
 .rename_i h;exact⟨by omega,by omega,zw ⟨rfl,h.1⟩⟩
 .exact⟨by omega,by omega,zu rfl⟩
open Go.RowKit
theorem uR {b':Nat} (h:w.ownsRow b e k v n xs) (j:b'<=b):w.ownsRow b' e k v n xs:=by
 obtain⟨d,h|⟨g,c,a,f,i,r⟩⟩:=h
 .exact⟨d,zu h⟩
 .exact⟨d,zw ⟨g,c,a,f,zv j i,r⟩⟩
theorem vE {w':World} (h:w.ownsRow b e k v n xs) (l:∀q,v.ownBlock=some q->w'.heap[q]?=w.heap[q]?):w'.ownsRow b e k v n xs:=by
 obtain⟨i,c⟩:=h;refine⟨i,?_⟩;rcases c with c|⟨g,d,a,rfl,j,f,r⟩
 .exact zu c
 .exact zw ⟨g,d,a,rfl,j,(l g rfl).trans f,r⟩
theorem iR {q:Option Addr} {c:Nat} {l:List Int} (h:w.ownsRow b 3 1 (q,n,c) n (ints l)) (u:m<=n):w.ownsRow b 3 1 (q,m,c) m (ints (l.take m)):=by
 obtain⟨i,⟨d,s⟩|⟨g,j,a,d,p,f,t,e,o,k⟩⟩:=h
 .cases d;have:m=0:=by omega
  subst this;exact⟨by simp[ints],zu ⟨rfl,rfl⟩⟩
 .cases d;have r:l.length=n:=by simpa[ints]using i
  refine⟨by simp[ints,Ni];omega,zw ⟨g,_,a,rfl,p,f,by omega,e,o,?_⟩⟩;rw[show ints (l.take m)=(ints l).take m by simp[ints],<-k,we]
  congr 1
  omega
theorem tK {base:Nat} {t:TypeId} {size:Nat} {cs:Array Value} {fr:Nat×Nat} (h:w.ownsRow base e size v n xs) (k:w.heap[g]?=some (.cells cs t fr)) (l:e≠t):∀q,v.ownBlock=some q->q≠g:=by
 intro q a b;subst b;obtain⟨_,⟨rfl,_⟩|⟨j,i,c,rfl,_,f,_⟩⟩:=h
 .simp[Value.ownBlock]at a
 .simp[Value.ownBlock]at a;subst a;rw[f]at k;injection k with k;injection k with _ d;exact l d
def lenV (v:Value):Nat:=match v with|.slice _ n _=>n|_=>0
theorem ng (l) (x):ints (l++[x])=ints l++[.int .i64 x]:=by simp[ints]
theorem ZG {B:Nat} {a:World} (h:Below B a w) (c:B<=g) (cs):Below B a (w.setRow g cs):=
 ⟨h.os,h.tape,h.output,by simpa using h.size,λi b=>(yO w g i cs (by omega)).trans (h.block i b)⟩
theorem EF (h:P.length<=m):resP P (m+1)=resP P m++[0]:=by unfold resP;rw[zo (by omega),zo h,show m+1-P.length=(m-P.length)+1 by omega,sQ,zR]
theorem iV: (prog.info? 102).map (·.size)=some 8:=by kernel_rfl
theorem Nc (a b c d e f g:Int) (v:Value) (i:v.oneCell'=true):(#[Value.int .i64 a,b,c,d,e,f,g,v]:Array Value).all (·.oneCell')=true:=by rw[xJ];intro x h;simp only[List.mem_toArray,yZ,oK,MN]at h;rcases h with rfl|rfl|rfl|rfl|rfl|rfl|rfl|rfl<;>first|rfl|exact i
def YD (k m u g sz l up:Int) (P:List Int) (s:Int) (w:World) (e:Ending) (w':World):Prop:=
 ∃pq pc gv,e=.returned (.tuple #[.agg #[k,m,u,g,sz,l,up,.slice pq (blkN sz) pc],gv,(ZI P (blkN sz) s sz:Int),()]) /\
  w'.ownsRow w 3 1 (pq,(blkN sz),pc) (blkN sz) (ints (resP P (blkN sz)))/\w'.ownsRow w 3 1 gv (pR P (blkN sz)).length (ints (srtI (pR P (blkN sz))))/\Below w w w'/\∀b,(Value.slice pq (blkN sz) pc).ownBlock=some b->gv.ownBlock≠some b
theorem Im (
 k m u g s l up:Int) (v:Value) (P:List Int) (sz:Int) (w:World) (h:tP w v P) (hr:tm k m u g s l up P=0) (hk:k≠0) (h0:0<=sz) (h1:sz<=512):
 Calls prog 91 #[.agg #[k,m,u,g,s,l,up,v],sz] w (YD k m u g sz l up P s w):=by
 unfold YD;obtain⟨K,HK⟩:=zD (blkN sz);have cz:K<=8:=by rw[<-HK.o];exact Mh h1
 have bV:Hid (jy sz=(K:Int)):=by show _=_;rw[j5,HK.o]
 rw[HK.o];obtain⟨bN,bO,aT,_⟩:=mA hr hk;have aX:P.length<=8:=by rw[aT];exact Mh bN.2
 have cf:Hid (0<sz->0<K):=λh=>by rw[<-HK.o];exact FF h
 obtain⟨N,V⟩:=zD P.length;rw[V.o]at aX;obtain⟨pv,B,hv⟩:∃p c,v=.slice p N c:=by
  rw[<-V.o];obtain⟨_,⟨h0,a0,c0,rfl⟩|⟨g,o,br,rfl,Y⟩⟩:=h
  .exact⟨a0,c0,by rw[h0]⟩
  .exact⟨_,br,rfl⟩
 subst hv;have ai:Hid (Below w w ((w.alloc (.cells #[k,m,u,g,s,l,up,(pv,N,B)] 102)).alloc (.cells #[(),(),(),(),(),(),(),.slice none 0 0] 102))):=(zB.alloc zL _).alloc (by simp) _;have HR:=za (PI k m u g s l up (pv,N,B) P ((w.alloc (.cells #[k,m,u,g,s,l,up,(pv,N,B)] 102)).alloc (.cells #[(),(),(),(),(),(),(),.slice none 0 0] 102)) (uq.below h ai.o) (by rw[V.o];omega));rw[hr]at HR;have bh:Hid (((w.alloc (.cells #[k,m,u,g,s,l,up,(pv,N,B)] 102)).alloc (.cells #[(),(),(),(),(),(),(),.slice none 0 0] 102)).heap[w.heap.size]?=some (.cells #[k,m,u,g,s,l,up,(pv,N,B)] 102)):=un (zO w _) _;have bA:Hid (((w.alloc (.cells #[k,m,u,g,s,l,up,(pv,N,B)] 102)).alloc (.cells #[(),(),(),(),(),(),(),.slice none 0 0] 102)).heap[w.heap.size+1]?=some (.cells #[(),(),(),(),(),(),(),.slice none 0 0] 102)):=by have:=zO (w.alloc (.cells #[k,m,u,g,s,l,up,(pv,N,B)] 102)) (.cells #[(),(),(),(),(),(),(),.slice none 0 0] 102);rw[show (w.alloc (.cells #[k,m,u,g,s,l,up,(pv,N,B)] 102)).heap.size=w.heap.size+1 by simp]at this;exact this
 have HI:=za h;have ct:(k==0)=false:=by simpa using hk
 clear bO aT hr hk h;go_enter func91,ntmps91;go_wp2_with fail
 refine HR.o.mono ?_;rintro e F ⟨rfl,an⟩;have X:Hid (Below w w F):=ai.o.trans (an.mono ai.o.size);have aG:=za (xV an bh.o);have bB:=za (xV an bA.o);obtain⟨q0,q1,q2,q3,q4,q5,q6,q7⟩:=tJ aG.o;have bc:=za (λW=>P3 sz W (by omega) (by omega));rw[bV.o]at bc;have b0:=za (mK (pv,N,B) P F (uq.below HI.o X.o) (by rw[V.o];omega));unfold V6 at b0;clear an ai HR bh bA;go_wp2_with fail
 refine (bc.o _).mono ?_;rintro e w' ⟨rfl,rfl⟩;go_wp2_with fail
 refine b0.o.mono ?_;rintro e I ⟨v2,rfl,U,T,_⟩;have c8:Hid (Below w w I):=X.o.trans (T.mono X.o.size);have cB:=za (xV T aG.o);have c4:=za (xV T bB.o);have bu:=T.size;obtain⟨x2,c2,aB,a4⟩:=rU U;rw[V.o]at aB U a4;subst aB;have a9:=za U;have c7:N<=c2:=by
  obtain⟨_,⟨hv,h0⟩|⟨g',br,cr,hv,_,_,Y,_⟩⟩:=U
  .cases hv;omega
  .cases hv;exact Y
 have bo:Hid (0<N->∃g,x2=some ⟨g,0,none⟩/\g<I.heap.size/\∀(j:Nat) (x:Value),(ints P)[j]?=some x->I.cell? ⟨g,j,none⟩=some x):=λh0=>by obtain⟨g,rfl,_,Y⟩:=a4 h0;exact⟨g,rfl,(U.lt g rfl).2,Y⟩
 have bI:Hid (Below F F I):=T;clear U a4 T q0 q1 q2 q3 q4 q5 q6 q7;obtain⟨i0,bk,ba,bs,bg⟩:=yX kG;have b9:=za bk;have aY:=za ba;have aV:=za bs;have be:=za bg;clear bk ba bs bg;go_wp2;go_loopw [10,11] (λpt gt wr=>∃n:Nat,n<=N/\(K<=n\/n=N)/\pt=.slice x2 n c2/\Hid (wr.ownsRow I 3 1 gt (nzF (P.drop n).reverse).length (ints (nzF (P.drop n).reverse)))/\Hid (n=N->gt=.slice none 0 0)/\Below I I wr) (λpt _ _=>lenV pt-K)
 .exact⟨N,zL,zw rfl,rfl,by show World.ownsRow _ _ _ _ _ _ _;rw[yG (by rw[V.o];exact zL)];exact yL _ _ _ _,λ_=>rfl,zB⟩
 .obtain⟨n,hn,ce,rfl,HG,bt,HB⟩:=hrel;by_cases ae:K<n
  .obtain⟨gx,rfl,hg,Y⟩:=bo.o (by omega);have bx:n-1<P.length:=(by rw[V.o];omega);obtain⟨p,Hp⟩:=zD (P[n-1]);have aQ:=Y (n-1) (.int .i64 p) (by rw[<-Hp.o];simp[ints,zk bx]);have cp:=(HB.cell (p:=⟨gx,n-1,none⟩) hg).trans aQ;have HT:Hid ((P.drop (n-1)).reverse=(P.drop n).reverse++[p]):=(by show _=_;have:=Dw P (n-1) bx;rw[show n-1+1=n by omega,Hp.o]at this;exact this);have b1:decide ((K:Int)<(n:Int))=true:=(by rw[yx];omega);have b2:(n:Int)-1=((n-1:Nat):Int):=(by omega);have b3:IntKind.i64.wrap ((n:Int)-1)=((n-1:Nat):Int):=(by rw[b2];exact zM _ (by omega));have b4:n-1<=c2:=(by omega);have b5:n-1<n:=(by omega);have a7:=(Vo (P.drop n).reverse);rw[uJ,Nk,V.o]at a7;have cn:(nzF (P.drop n).reverse).length<=8:=(by omega);clear a7 Y aQ b2;have a8:Hid (∀q,u11.ownBlock=some q->I.heap.size<=q):=λq hq=>(HG.o.lt q hq).1;have aF:Hid ((wr.alloc (.cells #[p] 3)).heap[wr.heap.size]?=some (.cells #[p] 3)):=zH;have a5:=HB.size;by_cases hp:p=0
   .have aE:Hid (wr.ownsRow I 3 1 u11 (nzF (P.drop (n-1)).reverse).length (ints (nzF (P.drop (n-1)).reverse))):=(by show World.ownsRow _ _ _ _ _ _ _;rw[HT.o,Oz,hp,show nzF [0]=[] from rfl,yY];exact HG.o);have bp:(p==0)=true:=(by simpa using hp);have bW:(p != 0)=false:=(by simp[bne,bp]);have bH:=za hp;clear hp;go_wp2;go_roundw
    .exact⟨n-1,by omega,by omega,rfl,aE,λh=>by omega,HB⟩
    .simp[lenV];omega
   .have aE:Hid (nzF (P.drop (n-1)).reverse=nzF (P.drop n).reverse++[p]):=by
     show _=_;rw[HT.o,Oz]
     congr 1
     unfold nzF;rw[List.filter_cons_of_pos (by simpa using hp)];rfl
    have bp:(p==0)=false:=(by simpa using hp);have bW:(p != 0)=true:=(by simp[bne,bp]);have bJ:=za (HG.o.alloc (.cells #[p] 3));have bH:=za hp;clear hp;go_wp2_with (at_builtin;refine yw _ rfl _ _ 33 rfl I.heap.size 3 i0 (.int .i64 0) 1 8 qG b9.o aY.o aV.o be.o rfl (by decide) _ _ _ rfl bJ.o ⟨_,0,none⟩ 1 1 [.int .i64 p] rfl rfl (xF (cs:=#[.int .i64 p]) (t:=3) (fr:=(0,0)) aF.o) (by simp[Value.oneCell']) (by unfold maxLen;omega) (by omega) (by simp;omega) ?_;intro v' w3 C A _)
    have a6:Hid (w3.ownsRow I 3 1 v' (nzF (P.drop (n-1)).reverse).length (ints (nzF (P.drop (n-1)).reverse))):=(by show World.ownsRow _ _ _ _ _ _ _;rw[aE.o,zl,ng];exact C);have aC:Below I I w3:=Cd (HB.alloc a5 _) A (by simp;omega) a8.o;clear C A;go_wp2;go_roundw
    .exact⟨n-1,by omega,by omega,rfl,a6,λh=>by omega,aC⟩
    .simp[lenV];omega
  .have ca:n<=P.length:=(by rw[V.o];exact hn);have bQ:Hid (nzF (P.drop n).reverse=pR P K):=by
    show _=_;unfold pR;by_cases e:n=K
    .rw[e]
    .rw[yG (by rw[V.o];omega),yG (by rw[V.o];omega)]
   rw[bQ.o]at HG;have bd:Hid (wr.ownsRow F 3 1 (x2,n,c2) n (ints (resP P n))):=(by show World.ownsRow _ _ _ _ _ _ _;rw[EE ca];have bl:=iR a9.o hn;exact vE bl λq hq=>HB.block q (bl.lt q hq).2);have ax:Hid (u11=.slice none 0 0\/(n=K/\∀b,(Value.slice x2 n c2).ownBlock=some b->u11.ownBlock≠some b)):=by
    by_cases e:n=K
    .refine zw ⟨e,λb a h2=>?_⟩;have h3:=((iR a9.o hn).lt b a).2;have h4:=(HG.o.lt b h2).1;omega
    .exact zu (bt.o (by omega))
   have bz:Hid (Below F F wr):=bI.o.trans (HB.mono bu);have a7:(pR P K).length<=8:=(by have:=UN P K;rw[V.o]at this;omega);have cx:decide (K<n)=false:=(by rw[zz];exact ae);have bC:N<=n\/n=K:=(by omega);have aR:n<=K:=(by omega);clear HB bt a9 bo ce ae;go_wp2;go_loopw [10] (λpt wq=>∃(j c:Nat) (q:Option Addr),j<=K/\(N<=j\/j=K)/\pt=.slice q j c/\Hid (wq.ownsRow F 3 1 (q,j,c) j (ints (resP P j)))/\Hid (wq.ownsRow I 3 1 u11 (pR P K).length (ints (pR P K)))/\Hid (u11=.slice none 0 0\/(j=K/\∀b,(Value.slice q j c).ownBlock=some b->u11.ownBlock≠some b))/\Hid (Below F F wq)) (λpt _=>K-lenV pt)
   .exact⟨n,c2,x2,aR,bC,rfl,bd,HG,ax,bz⟩
   .obtain⟨j,c,q,hj,bK,rfl,Z,aj,am,aa⟩:=hrel;by_cases ae:j<K
    .have av:Hid (u11=.slice none 0 0):=by
      rcases am.o with h|⟨h,_⟩
      .exact h
      .omega
     have a5:=aa.o.size;have cg:=za (Z.o.alloc (.cells #[()] 3));have aF:Hid ((wr.alloc (.cells #[()] 3)).heap[wr.heap.size]?=some (.cells #[()] 3)):=zH;have a8:Hid (∀b,(Value.slice q j c).ownBlock=some b->F.heap.size<=b):=λb a=>(Z.o.lt b a).1;have ch:Hid (resP P (j+1)=resP P j++[0]):=EF (by rw[V.o];omega);go_wp2_with (at_builtin;refine yw _ rfl _ _ 33 rfl F.heap.size 3 i0 (.int .i64 0) 1 8 qG b9.o aY.o aV.o be.o rfl (by decide) _ _ _ rfl cg.o ⟨_,0,none⟩ 1 1 [.int .i64 0] rfl rfl (xF (cs:=#[.int .i64 0]) (t:=3) (fr:=(0,0)) aF.o) (by simp[Value.oneCell']) (by unfold maxLen;omega) (by omega) (by simp;omega) ?_;intro v' w3 C A _)
     obtain⟨q',c',aI,_⟩:=rU C;subst aI;have a6:Hid (w3.ownsRow F 3 1 (q',(j+1),c') (j+1) (ints (resP P (j+1)))):=(by show World.ownsRow _ _ _ _ _ _ _;rw[ch.o,ng];exact C);have aC:Hid (Below F F w3):=Cd (aa.o.alloc a5 _) A (by simp;omega) a8.o;have bZ:Hid (w3.ownsRow I 3 1 u11 (pR P K).length (ints (pR P K))):=vE aj.o λb a=>(by rw[av.o]at a;simp[Value.ownBlock]at a);have bP:Hid (u11=.slice none 0 0\/(j+1=K/\∀b,(Value.slice q' (j+1) c').ownBlock=some b->u11.ownBlock≠some b)):=zu av.o;clear C A;go_wp2;go_roundw
     .exact⟨j+1,c',q',by omega,by omega,rfl,a6,bZ,bP,aC⟩
     .simp[lenV];omega
    .obtain rfl:K=j:=(by omega);have cd:=za (X6 u11 (pR P K) I wr aj.o (by omega));go_wp2_with fail
     refine cd.o.mono ?_;rintro e D ⟨rfl,aS,aL⟩;have ak:Hid (∀b,(Value.slice q K c).ownBlock=some b->u11.ownBlock≠some b):=λb a=>by
      rcases am.o with h|⟨_,h⟩
      .rw[h];simp[Value.ownBlock]
      .exact h b a
     have S:Hid (D.ownsRow F 3 1 (q,K,c) K (ints (resP P K))):=vE Z.o λb a=>aL.block b (Z.o.lt b a).2 (λe=>by
      rcases am.o with h|⟨_,h⟩
      .rw[h]at e;simp[Value.ownBlock]at e
      .exact h b a e.symm)
     have a3:=za aS;have al:Hid (Below F F D):=Cd aa.o aL aa.o.size (λb a=>by have:=(aj.o.lt b a).1;omega);have O:Hid (D.heap[w.heap.size]?=some (.cells #[k,m,u,g,s,l,up,(pv,N,B)] 102)):=xV al.o aG.o;have aK:Hid (D.heap[w.heap.size+1]?=some (.cells #[(),(),(),(),(),(),(),.slice none 0 0] 102)):=xV al.o bB.o;have a1:Hid (Below w w D):=X.o.trans (al.o.mono X.o.size);have bS:Hid (0<K->∃g,q=some ⟨g,0,none⟩/\∀(i:Nat) (x:Value),(ints (resP P K))[i]?=some x->D.cell? ⟨g,i,none⟩=some x):=λh0=>(by obtain⟨q',c',aI,hx⟩:=rU S.o;cases aI;obtain⟨g,rfl,_,Y⟩:=hx h0;exact⟨g,rfl,Y⟩);obtain⟨z0,z1,z2,z3,z4,z5,z6,z7⟩:=tJ O.o;have c1:w.heap.size<D.heap.size:=xB O.o;have aB:w.heap.size+1<D.heap.size:=xB aK.o;have fz:∀i,D.frozen? ⟨w.heap.size,i,none⟩=false:=λi=>zF O.o;have c6:=fz 4;have cE:=fz 7;have bM:Hid ((resP P K).length=K):=nQ P K;clear aS aL fz Z aj am aa bd HG ax bz bC aR ae bK hj;have f:=tK S.o O.o (by decide);have r:=tK a3.o O.o (by decide);have ag:∀b,b≠w.heap.size->((D.setCell (w.heap.size,4) (.int .i64 sz)).setCell (w.heap.size,7) (q,K,c)).heap[b]?=D.heap[b]? :=λb a=>(yj _ _ _ b a).trans (yj _ _ _ b a);have ah:Hid (((D.setCell (w.heap.size,4) (.int .i64 sz)).setCell (w.heap.size,7) (q,K,c)).heap[w.heap.size]?=some (.cells #[k,m,u,.int .i64 g,sz,l,up,(q,K,c)] 102)):=zT _ _ 7 _ _ (q,K,c) (zT _ _ 4 _ _ (.int .i64 sz) O.o);have d:Hid (((D.setCell (w.heap.size,4) (.int .i64 sz)).setCell (w.heap.size,7) (q,K,c)).heap[w.heap.size+1]?=some (.cells #[(),(),(),(),(),(),(),.slice none 0 0] 102)):=(ag _ (by omega)).trans aK.o;have z:Hid (((D.setCell (w.heap.size,4) (.int .i64 sz)).setCell (w.heap.size,7) (q,K,c)).ownsRow F 3 1 (q,K,c) K (ints (resP P K))):=vE S.o λb a=>ag b (f b a);have H:Hid (((D.setCell (w.heap.size,4) (.int .i64 sz)).setCell (w.heap.size,7) (q,K,c)).ownsRow I 3 1 u11 (pR P K).length (ints (srtI (pR P K)))):=vE a3.o λb a=>ag b (r b a);have af:Hid (Below w w ((D.setCell (w.heap.size,4) (.int .i64 sz)).setCell (w.heap.size,7) (q,K,c))):=(a1.o.setCell zL _).setCell zL _;have ad:=X.o.size;clear f r ag O aK S a3 a1 al;by_cases R:sz<s
     .have b1:decide (sz<s)=true:=(by rw[yx];exact R);by_cases hm:sz%64=0
      .have b2:(sz%64==0)=true:=(by simpa using hm);have b3:(sz%64 != 0)=false:=(by simp[bne,b2]);have HT:Hid (ZI P K s sz=0):=(by show _=_;unfold ZI;rw[zb (λh=>h.2.1 hm)]);clear hm
       go_upto_region 25 with fail
       generalize ((D.setCell (w.heap.size,4) (.int .i64 sz)).setCell (w.heap.size,7) (q,K,c))=E at *
       obtain⟨q0,q1,q2,q3,q4,q5,q6,q7⟩:=tJ ah.o;have f:=tK z.o d.o (by decide);have r:=tK H.o d.o (by decide);have L:Hid ((E.setRow (w.heap.size+1) #[k,m,u,g,sz,l,up,(q,K,c)]).heap[w.heap.size+1]?=some (.cells #[k,m,u,g,sz,l,up,(q,K,c)] 102)):=ya _ _ _ _ _ _ d.o;have M:Hid (Below w w (E.setRow (w.heap.size+1) #[k,m,u,g,sz,l,up,(q,K,c)])):=ZG af.o (by omega) _;have J:Hid ((E.setRow (w.heap.size+1) #[k,m,u,g,sz,l,up,(q,K,c)]).ownsRow w 3 1 (q,K,c) K (ints (resP P K))):=uR (vE z.o λb a=>yO _ _ _ _ (f b a)) ad;have Q:Hid ((E.setRow (w.heap.size+1) #[k,m,u,g,sz,l,up,(q,K,c)]).ownsRow w 3 1 u11 (pR P K).length (ints (srtI (pR P K)))):=uR (vE H.o λb a=>yO _ _ _ _ (r b a)) (by omega);clear f r;go_wp2_with (refine Nl rfl 102 (.tmp 4) (.tmp 91) rfl (w.heap.size+1) #[k,m,u,g,sz,l,up,(q,K,c)] rfl rfl 102 _ d.o iV rfl (Nc _ _ _ _ _ _ _ _ rfl) ?_)
       obtain⟨z0,z1,z2,z3,z4,z5,z6,z7⟩:=tJ L.o;exact yE (v:=.tuple #[.agg #[k,m,u,g,sz,l,up,(q,K,c)],u11,.int .i64 (ZI P K s sz),()]) (by simp[results,results91,go_sem,z0,z1,z2,z3,z4,z5,z6,z7,HT.o]) rfl ⟨q,c,u11,rfl,J.o,Q.o,M.o,ak.o⟩
      .have b2:(sz%64==0)=false:=(by simpa using hm);have b3:(sz%64 != 0)=true:=(by simp[bne,b2]);have bU:0<K:=cf.o (by omega);obtain⟨G,rfl,Y⟩:=bS.o bU;have bn:K-1<(resP P K).length:=(by rw[bM.o];omega);obtain⟨y,Hy⟩:=zD ((resP P K)[K-1]);have c5:=Y (K-1) (.int .i64 y) (by rw[<-Hy.o];simp[ints,zk bn]);have bv:Hid ((resP P K).getD (K-1) 0=y):=(by show _=_;rw[zt,zk bn,<-Hy.o];rfl);have b4:(K:Int)-1=((K-1:Nat):Int):=(by omega);have b5:IntKind.i64.wrap ((K:Int)-1)=((K-1:Nat):Int):=(by rw[b4];exact zM _ (by omega));have b6:K-1<K:=(by omega);clear Y b4;by_cases hy:y=0
       .have b7:(y==0)=true:=(by simpa using hy);have b8:(y != 0)=false:=(by simp[bne,b7]);have HT:Hid (ZI P K s sz=0):=(by show _=_;unfold ZI;rw[zb (λh=>h.2.2 (by rw[bv.o];exact hy))]);clear hy hm
        go_upto_region 25 with fail
        generalize ((D.setCell (w.heap.size,4) (.int .i64 sz)).setCell (w.heap.size,7) (G,0,K,c))=E at *
        obtain⟨q0,q1,q2,q3,q4,q5,q6,q7⟩:=tJ ah.o;have f:=tK z.o d.o (by decide);have r:=tK H.o d.o (by decide);have L:Hid ((E.setRow (w.heap.size+1) #[k,m,u,g,sz,l,up,(G,0,K,c)]).heap[w.heap.size+1]?=some (.cells #[k,m,u,g,sz,l,up,(G,0,K,c)] 102)):=ya _ _ _ _ _ _ d.o;have M:Hid (Below w w (E.setRow (w.heap.size+1) #[k,m,u,g,sz,l,up,(G,0,K,c)])):=ZG af.o (by omega) _;have J:Hid ((E.setRow (w.heap.size+1) #[k,m,u,g,sz,l,up,(G,0,K,c)]).ownsRow w 3 1 (G,0,K,c) K (ints (resP P K))):=uR (vE z.o λb a=>yO _ _ _ _ (f b a)) ad;have Q:Hid ((E.setRow (w.heap.size+1) #[k,m,u,g,sz,l,up,(G,0,K,c)]).ownsRow w 3 1 u11 (pR P K).length (ints (srtI (pR P K)))):=uR (vE H.o λb a=>yO _ _ _ _ (r b a)) (by omega);clear f r;go_wp2_with (refine Nl rfl 102 (.tmp 4) (.tmp 91) rfl (w.heap.size+1) #[k,m,u,g,sz,l,up,(G,0,K,c)] rfl rfl 102 _ d.o iV rfl (Nc _ _ _ _ _ _ _ _ rfl) ?_)
        obtain⟨z0,z1,z2,z3,z4,z5,z6,z7⟩:=tJ L.o;exact yE (v:=.tuple #[.agg #[k,m,u,g,sz,l,up,(G,0,K,c)],u11,.int .i64 (ZI P K s sz),()]) (by simp[results,results91,go_sem,z0,z1,z2,z3,z4,z5,z6,z7,HT.o]) rfl ⟨_,c,u11,rfl,J.o,Q.o,M.o,ak.o⟩
       .have b7:(y==0)=false:=(by simpa using hy);have b8:(y != 0)=true:=(by simp[bne,b7]);have HT:Hid (ZI P K s sz=sz%64):=(by show _=_;unfold ZI;rw[ze ⟨R,hm,by rw[bv.o];exact hy⟩]);clear hy hm
        go_upto_region 25 with fail
        generalize ((D.setCell (w.heap.size,4) (.int .i64 sz)).setCell (w.heap.size,7) (G,0,K,c))=E at *
        obtain⟨q0,q1,q2,q3,q4,q5,q6,q7⟩:=tJ ah.o;have f:=tK z.o d.o (by decide);have r:=tK H.o d.o (by decide);have L:Hid ((E.setRow (w.heap.size+1) #[k,m,u,g,sz,l,up,(G,0,K,c)]).heap[w.heap.size+1]?=some (.cells #[k,m,u,g,sz,l,up,(G,0,K,c)] 102)):=ya _ _ _ _ _ _ d.o;have M:Hid (Below w w (E.setRow (w.heap.size+1) #[k,m,u,g,sz,l,up,(G,0,K,c)])):=ZG af.o (by omega) _;have J:Hid ((E.setRow (w.heap.size+1) #[k,m,u,g,sz,l,up,(G,0,K,c)]).ownsRow w 3 1 (G,0,K,c) K (ints (resP P K))):=uR (vE z.o λb a=>yO _ _ _ _ (f b a)) ad;have Q:Hid ((E.setRow (w.heap.size+1) #[k,m,u,g,sz,l,up,(G,0,K,c)]).ownsRow w 3 1 u11 (pR P K).length (ints (srtI (pR P K)))):=uR (vE H.o λb a=>yO _ _ _ _ (r b a)) (by omega);clear f r;go_wp2_with (refine Nl rfl 102 (.tmp 4) (.tmp 91) rfl (w.heap.size+1) #[k,m,u,g,sz,l,up,(G,0,K,c)] rfl rfl 102 _ d.o iV rfl (Nc _ _ _ _ _ _ _ _ rfl) ?_)
        obtain⟨z0,z1,z2,z3,z4,z5,z6,z7⟩:=tJ L.o;exact yE (v:=.tuple #[.agg #[k,m,u,g,sz,l,up,(G,0,K,c)],u11,.int .i64 (ZI P K s sz),()]) (by simp[results,results91,go_sem,z0,z1,z2,z3,z4,z5,z6,z7,HT.o]) rfl ⟨_,c,u11,rfl,J.o,Q.o,M.o,ak.o⟩
     .have b1:decide (sz<s)=false:=(by rw[zz];exact R);have HT:Hid (ZI P K s sz=0):=by show _=_;unfold ZI;rw[zb (λh=>R h.1)]
      go_upto_region 25 with fail
      generalize ((D.setCell (w.heap.size,4) (.int .i64 sz)).setCell (w.heap.size,7) (q,K,c))=E at *
      obtain⟨q0,q1,q2,q3,q4,q5,q6,q7⟩:=tJ ah.o;have f:=tK z.o d.o (by decide);have r:=tK H.o d.o (by decide);have L:Hid ((E.setRow (w.heap.size+1) #[k,m,u,g,sz,l,up,(q,K,c)]).heap[w.heap.size+1]?=some (.cells #[k,m,u,g,sz,l,up,(q,K,c)] 102)):=ya _ _ _ _ _ _ d.o;have M:Hid (Below w w (E.setRow (w.heap.size+1) #[k,m,u,g,sz,l,up,(q,K,c)])):=ZG af.o (by omega) _;have J:Hid ((E.setRow (w.heap.size+1) #[k,m,u,g,sz,l,up,(q,K,c)]).ownsRow w 3 1 (q,K,c) K (ints (resP P K))):=uR (vE z.o λb a=>yO _ _ _ _ (f b a)) ad;have Q:Hid ((E.setRow (w.heap.size+1) #[k,m,u,g,sz,l,up,(q,K,c)]).ownsRow w 3 1 u11 (pR P K).length (ints (srtI (pR P K)))):=uR (vE H.o λb a=>yO _ _ _ _ (r b a)) (by omega);clear f r;go_wp2_with (refine Nl rfl 102 (.tmp 4) (.tmp 91) rfl (w.heap.size+1) #[k,m,u,g,sz,l,up,(q,K,c)] rfl rfl 102 _ d.o iV rfl (Nc _ _ _ _ _ _ _ _ rfl) ?_)
      obtain⟨z0,z1,z2,z3,z4,z5,z6,z7⟩:=tJ L.o;exact yE (v:=.tuple #[.agg #[k,m,u,g,sz,l,up,(q,K,c)],u11,.int .i64 (ZI P K s sz),()]) (by simp[results,results91,go_sem,z0,z1,z2,z3,z4,z5,z6,z7,HT.o]) rfl ⟨q,c,u11,rfl,J.o,Q.o,M.o,ak.o⟩
structure Nd where
 k:Int
 m:Int
 u:Int
 g:Int
 s:Int
 l:Int
 up:Int
 q:Option Addr
 n:Nat
 c:Nat
def nd8 (x:Nd):List Value:=[.int .i64 x.k,.int .i64 x.m,.int .i64 x.u,.int .i64 x.g,.int .i64 x.s,.int .i64 x.l,.int .i64 x.up,.slice x.q x.n x.c]
def ue (E:List Nd):List Value:=E.flatMap nd8
theorem Y6 (E):(ue E).length=E.length*8:=by
 induction E with
 | nil=>rfl
 | cons x E a=>simp only[ue,Nm,zl,yv]at *;simp only[nd8,yv,xC];omega
theorem Y7 (E) (k) (hk) (j) (c:j<8):(ue E)[k*8+j]?=(nd8 E[k])[j]? :=by
 induction E generalizing k with
 | nil=>simp at hk
 | cons x E b=>
  have e:ue (x::E)=nd8 x++ue E:=rfl;have a:(nd8 x).length=8:=rfl;rw[e];cases k with
  | zero=>rw[zV (by rw[a];omega),uO,yF];rfl
  | succ k=>
   rw[zx (by rw[a];omega),a,show (k+1)*8+j-8=k*8+j by omega];exact b k (by simpa using hk)
theorem sB {o:Nat} {E:List Nd} (d:∀(j) (x),(ue E)[j]?=some x->w.cell? ⟨g,o+j,none⟩=some x) (k) (hk):
 w.cell? ⟨g,o+k*8,none⟩=some (.int .i64 E[k].k)/\w.cell? ⟨g,o+k*8+1,none⟩=some (.int .i64 E[k].m)/\w.cell? ⟨g,o+k*8+2,none⟩=some (.int .i64 E[k].u)/\w.cell? ⟨g,o+k*8+3,none⟩=some (.int .i64 E[k].g) /\
 w.cell? ⟨g,o+k*8+4,none⟩=some (.int .i64 E[k].s)/\w.cell? ⟨g,o+k*8+5,none⟩=some (.int .i64 E[k].l)/\w.cell? ⟨g,o+k*8+6,none⟩=some (.int .i64 E[k].up)/\w.cell? ⟨g,o+k*8+7,none⟩=some (.slice E[k].q E[k].n E[k].c):=by
 have h:=λj b v a=>d (k*8+j) v ((Y7 E k hk j b).trans a);refine⟨h 0 (by omega) _ rfl,?_,?_,?_,?_,?_,?_,?_⟩
 .rw[yp];exact h 1 (by omega) _ rfl
 .rw[yp];exact h 2 (by omega) _ rfl
 .rw[yp];exact h 3 (by omega) _ rfl
 .rw[yp];exact h 4 (by omega) _ rfl
 .rw[yp];exact h 5 (by omega) _ rfl
 .rw[yp];exact h 6 (by omega) _ rfl
 .rw[yp];exact h 7 (by omega) _ rfl
theorem rR {E:List Nd} (h:uq w v 8 E.length (ue E)):∃p cp,v=.slice p E.length cp/\Hid (0<E.length->∃g o,p=some ⟨g,o,none⟩/\g<w.heap.size/\∀(j) (x),(ue E)[j]?=some x->w.cell? ⟨g,o+j,none⟩=some x):=by
 obtain⟨_,⟨b,d,e,rfl⟩|⟨g,o,a,rfl,c⟩⟩:=h
 .exact⟨d,e,by rw[b],λh=>by omega⟩
 .refine⟨_,a,rfl,λb=>⟨g,o,rfl,?_,c⟩⟩;exact zy (sB c 0 b).1
def LV (x:Nd) (H:List Int) (i:Int):Bool:= !(x.k==0)&&(x.l==0)&&!(H.contains i)
def Rw (E:List Nd) (H:List Int):Nat->List Int
 | 0=>[]
 | k+1=>Rw E H k++(match E[k]? with|some x=>if LV x H (k+1)=true then [k+1] else []|none=>[])
theorem Y9 {E:List Nd} {H:List Int} (hk):Rw E H (k+1)=Rw E H k++(if LV E[k] H (k+1)=true then [(k:Int)+1] else []):=by rw[Rw,zk hk]
theorem UA (E) (H):∀k,(Rw E H k).length<=k
 | 0=>zL
 | k+1=>by
  have a:=UA E H k;rw[Rw,zl];split
  .split<;>simp<;>omega
  .simp;omega
theorem Gu (
 v hv) (E) (H) (w) (h1:uq w v 8 E.length (ue E)) (h2:tP w hv H) (hl:E.length<=1000) (ad:H.length<=1000000):
 Calls prog 83 #[v,hv] w λe w'=>∃r,e=.returned r/\w'.ownsRow w 3 1 r (Rw E H E.length).length (ints (Rw E H E.length))/\Below w w w':=by
 obtain⟨p,cp,rfl,HP⟩:=rR h1;obtain⟨N,HN⟩:=zD E.length;have H2:=za h2;obtain⟨ph,nh,ch,ab⟩:∃p n c,hv=.slice p n c:=by
  obtain⟨_,⟨h0,a0,c0,rfl⟩|⟨g,o,ax,rfl,hc⟩⟩:=h2
  .exact⟨a0,_,c0,rfl⟩
  .exact⟨_,_,ax,rfl⟩
 subst ab;rw[HN.o]at hl HP;rw[HN.o];obtain⟨i0,S,L,U,Q⟩:=yX kG;have az:=za S;have al:=za L;have ag:=za U;have ap:=za Q;clear h1 h2 S L U Q;go_enter func83,ntmps83;go_wp2;go_loopw [5,10] (λo i wr=>∃k:Nat,k<=N/\i=.int .i64 k/\Hid (wr.ownsRow w 3 1 o (Rw E H k).length (ints (Rw E H k)))/\Below w w wr) (λ_ i _=>N-(intOf i).toNat)
 .exact⟨0,yh _,rfl,yL _ _ _ _,zB⟩
 .obtain⟨k,hk,rfl,HO,f⟩:=hrel;by_cases ai:k<N
  .obtain⟨g,o,rfl,s,hc⟩:=HP.o (by omega);have T:k<E.length:=(by rw[HN.o];exact ai);obtain⟨d0,d1,d2,d3,d4,d5,d6,d7⟩:=sB hc k T;have D:=za (Y9 (H:=H) T);generalize E[k]=x at d0 d1 d2 d3 d4 d5 d6 d7 D;obtain⟨h,I,P,V,O,d,l,R,F,W⟩:=x;have c0:=(f.cell (p:=⟨g,o+k*8,none⟩) s).trans d0;have c1:=(f.cell (p:=⟨g,o+k*8+1,none⟩) s).trans d1;have c2:=(f.cell (p:=⟨g,o+k*8+2,none⟩) s).trans d2;have c3:=(f.cell (p:=⟨g,o+k*8+3,none⟩) s).trans d3;have c4:=(f.cell (p:=⟨g,o+k*8+4,none⟩) s).trans d4;have c5:=(f.cell (p:=⟨g,o+k*8+5,none⟩) s).trans d5;have c6:=(f.cell (p:=⟨g,o+k*8+6,none⟩) s).trans d6;have c7:=(f.cell (p:=⟨g,o+k*8+7,none⟩) s).trans d7;dsimp only at c0 c1 c2 c3 c4 c5 c6 c7;have a1:k<(N:Int):=(by omega);have a6:=zr s f.size;have a5:¬g=wr.heap.size:=(by omega);have ae:=f.size;have X:Below w w (wr.alloc (.cells #[h,I,P,V,O,d,l,(R,F,W)] 102)):=f.alloc ae _;have b:=za X;have Y:=za (λo=>HO.o.alloc o);have A:=HO.o.lt;have ak:=za (λq hq=>(A q hq).1);have aI:=UA E H k;have av:Hid (((wr.alloc (.cells #[h,I,P,V,O,d,l,(R,F,W)] 102)).alloc (.cells #[.int .i64 (k+1)] 3)).heap[wr.heap.size+1]?=some (.cells #[.int .i64 (k+1)] 3)):=(by have:=zO (wr.alloc (.cells #[h,I,P,V,O,d,l,(R,F,W)] 102)) (.cells #[.int .i64 ((k:Int)+1)] 3);rw[show (wr.alloc (.cells #[h,I,P,V,O,d,l,(R,F,W)] 102)).heap.size=wr.heap.size+1 by simp]at this;exact this);have C:=za (Zp (ph,nh,ch) H ((k:Int)+1) _ (uq.below H2.o b.o) ad);obtain⟨cb,M⟩:=zD (H.contains ((k:Int)+1));rw[M.o]at C;have z:Hid (Rw E H (k+1)=Rw E H k++(if (!(h==0)&&(d==0)&&!cb)=true then [(k:Int)+1] else [])):=(by show _=_;rw[D.o];unfold LV;rw[M.o]);clear hc d0 d1 d2 d3 d4 d5 d6 d7 A X D;have B:Hid ((!(h==0)&&(d==0)&&!cb)=false->(wr.alloc (.cells #[h,I,P,V,O,d,l,(R,F,W)] 102)).ownsRow w 3 1 u5 (Rw E H (k+1)).length (ints (Rw E H (k+1)))):=λhf=>(by rw[z.o,hf,zb (by simp),yY];exact Y.o _);by_cases u:h=0
   .have K:(h==0)=true:=(by simpa using u);have b2:(h != 0)=false:=(by simp[bne,K]);have a:=za (B.out (by rw[K];rfl));clear u;go_wp2;go_roundw
    .exact⟨k+1,by omega,by go_num,a,b.o⟩
    .simp[intOf];omega
   .have K:(h==0)=false:=(by simpa using u);have b2:(h != 0)=true:=(by simp[bne,K]);clear u;by_cases m:d=0
    .have G:(d==0)=true:=(by simpa using m);have b4:(d != 0)=false:=(by simp[bne,G]);clear m;cases cb with
     | true=>
      have a:=za (B.out (by simp));go_wp2_with fail
      refine C.o.mono ?_;rintro e w' ⟨rfl,rfl⟩;go_wp2;go_roundw
      .exact⟨k+1,by omega,by go_num,a,b.o⟩
      .simp[intOf];omega
     | false=>
      have J:Hid (Rw E H (k+1)=Rw E H k++[(k:Int)+1]):=(by show _=_;rw[z.o,K,G];simp);go_wp2_with fail
      refine C.o.mono ?_;rintro e w' ⟨rfl,rfl⟩;go_wp2_with (at_builtin;refine yw _ rfl _ _ 33 rfl w.heap.size 3 i0 (.int .i64 0) 1 8 qG az.o al.o ag.o ap.o rfl (by decide) _ _ _ rfl ((Y.o _).alloc _) ⟨_,0,none⟩ 1 1 [.int .i64 ((k:Int)+1)] rfl rfl (xF (cs:=#[.int .i64 ((k:Int)+1)]) (t:=3) (fr:=(0,0)) av.o) (by simp[Value.oneCell']) (by unfold maxLen;omega) (by omega) (by simp;omega) ?_;intro v' w1 y j _)
      have a:Hid (w1.ownsRow w 3 1 v' (Rw E H (k+1)).length (ints (Rw E H (k+1)))):=(by show World.ownsRow _ _ _ _ _ _ _;rw[J.o,zl,ng];exact y);have au:=Cd (b.o.alloc b.o.size _) j (by simp;omega) ak.o;clear y j;go_wp2;go_roundw
      .exact⟨k+1,by omega,by go_num,a,au⟩
      .simp[intOf];omega
    .have G:(d==0)=false:=(by simpa using m);have b4:(d != 0)=true:=(by simp[bne,G]);have a:=za (B.out (by rw[G];simp));clear m;go_wp2;go_roundw
     .exact⟨k+1,by omega,by go_num,a,b.o⟩
     .simp[intOf];omega
  .have Z:k=N:=(by omega);subst Z;go_wp2;go_ret;exact⟨_,rfl,HO.o,f⟩
open Go.Shelf Go.Sort
def encE (x:En):List Value:=[.string x.1,.int .i64 x.2]
def cfE (x y:En):Int:=cmpB x.1 y.1
theorem l3 (x):(encE x).length=2:=rfl
theorem Fi (x):∀v∈encE x,v.oneCell'=true:=by intro v a;simp[encE]at a;rcases a with rfl|rfl<;>rfl
theorem O0 (a b):decide (cmpB a b<0)=lexB a b:=by
 unfold cmpB;cases lexB a b with
 | true=>rfl
 | false=>by_cases h:a=b<;>simp[h]
theorem Fu: SWO (ltOf cfE) where
 irrefl x:=by unfold ltOf cfE;rw[O0];exact RD _
 trans x y z h1 h2:=by
  unfold ltOf cfE at *
  rw[O0]at *
  exact rA h1 h2
 ntrans x y z h1 h2:=by
  unfold ltOf cfE at *
  rw[O0]at *
  cases h:lexB x.1 z.1 with
  | false=>rfl
  | true=>
   cases a:lexB y.1 x.1 with
   | true=>rw[rA a h]at h2;cases h2
   | false=>rw[jd h1 a]at h;rw[h]at h2;cases h2
theorem Fv (x y) (W):
 Calls prog 188 #[.agg (encE x).toArray,.agg (encE y).toArray] W <|ρ (cfE x y:Int) λw'=>∃q os',w'=grow (W.drewN q) os':=by
 unfold cfE encE;obtain⟨a,h⟩:=x;obtain⟨b,g⟩:=y;obtain⟨r,c⟩:=zD (cmpB a b);have i:Hid (∀W,Calls prog 148 #[.string a,.string b] W λe w'=>e=.returned r/\W=w'):=λW=>by rw[<-c.o];exact Sx a b W
 have d:cmpB (a,h).1 (b,g).1=r:=c.o;rw[d];clear c d;have f:¬W.heap.size=W.heap.size+1:=by omega
 go_enter func188,ntmps188
 go_wp2_with fail
 refine (i.o _).mono ?_;rintro e j ⟨rfl,rfl⟩;go_wp2;go_ret;exact⟨rfl,0,_,by rw[alloc_eq_grow,alloc_eq_grow,grow_grow];rfl⟩
def SortE (base:Nat) (v:Value) (O:List En) (W:World) (e:Ending) (w':World):Prop:=e=.returned (.tuple #[])/\∃T,T.Perm O/\T.Pairwise (λa b=>lexB b.1 a.1=false)/\w'.ownsRow base 112 2 v O.length (ents T)/\W.grownBy w' v.ownBlock
theorem Lj: ∀(args) (w),(callFunc 188 args).run prog w=.ok (.enter 188 args) w:=enters_of func188 (by kernel_rfl) rfl
theorem IZ (base) (v) (O) (W) (V:W.ownsRow base 112 2 v O.length (ents O)) (X:O.length<=1000000):
 Calls prog 187 #[v,.func (.func 188) #[] #[]] W (SortE base v O W):=by
 have d:=V;obtain⟨T,⟨rfl,P⟩|⟨g,f,t,rfl,J,c,F,Q,D,I⟩⟩:=V
 .have K:=yz.1 P;refine (tb lk none 0 (.func (.func 188) #[] #[]) W).mono λe H ⟨w,B⟩=>⟨w,O,NW _,?_,?_,?_⟩
  .rw[K];exact List.Pairwise.nil
  .rw[B];exact d
  .rw[B];exact⟨rfl,rfl,rfl,zL,λ_ _ _=>rfl⟩
 .have a:O.toArray.size=O.length:=by simp
  have M:=mC l3 c (by rw[a];have e:O.toArray.toList.flatMap encE=ents O:=rfl;rw[e];exact I);have o:CmpLays prog 188 #[] encE 2 cfE g 0 O.toArray.size W:=λm os U _ x y=>Fv x y _;have h:=sS lk 2 isAgg112 sizeOf112 encE l3 Fi cfE Fu 188 #[] g 0 f O.toArray W Lj o M (xB c) (by rw[a];omega);rw[a]at h;refine h.mono ?_;rintro e H ⟨w,b,n,os,C,z,rfl⟩;have q:b.size=O.length:=by rw[C.1,a]
  have l:b.toList.length=O.length:=by simpa using q
  have u:b.size*2<=t.size:=by rw[q,D];exact sM _ F
  obtain⟨p,G,R,A⟩:=gQ (enc:=encE) (k:=2) l3 (m:=n) (os:=os) c u;refine⟨w,b.toList,?_,?_,?_,Zq⟩
  .have:=C.2.2;have S:(b.extract 0 O.length).toList=b.toList:=(by rw[<-q];simp);have L:(O.toArray.extract 0 O.length).toList=O:=(by simp);rw[S,L]at this;exact this
  .rw[wy];intro i j N E s;rw[l]at N E;have r:=z i j zZ s E;rw[vD b i (by omega),vD b j (by omega)]at r;unfold ltOf cfE at r;rw[O0]at r;rw[vq,vq];exact r
  .refine⟨by rw[NO,l],zw ⟨g,f,p,rfl,J,G,F,Q,by rw[R];exact D,?_⟩⟩;rw[q]at A;exact A
end Go.Proofs.YtpcedcnjofbgjaaGreatDoor
namespace Go.Proofs.YtpcedcnjofbgjaaGreatDoor
open Go.Proofs.Tryz Go.RowKit
def fQ (L:List Int) (n:Int):List Int:=if 1<=n/\n<=32 then L.set (n-1).toNat (L.getD (n-1).toNat 0+1) else L
def ML (X:List En):List Int:=X.foldl (λL x=>fQ L x.2) (List.replicate 32 0)
theorem gJ (X) (x):ML (X++[x])=fQ (ML X) x.2:=by unfold ML;rw[xf];rfl
theorem lu (L) (n):(fQ L n).length=L.length:=by unfold fQ;split<;>simp
theorem N3 (X:List En):∀k,k<=X.length->(ML (X.take k)).length=32/\∀i,0<=(ML (X.take k)).getD i 0/\(ML (X.take k)).getD i 0<=k
 | 0,_=>by
  refine⟨by simp[ML],λi=>?_⟩;have:(ML (X.take 0)).getD i 0=0:=by show (List.replicate 32 (0:Int)).getD i 0=0;rw[zt,vx];split<;>rfl
  rw[this];simp
 | k+1,d=>by
  obtain⟨c,b⟩:=N3 X k (by omega);have a:k<X.length:=by omega
  rw[<-zU a,gJ];refine⟨by rw[lu];exact c,λi=>?_⟩;have:=b i;unfold fQ;split
  .rw[zt,pu];split
   .have e:=b (X[k].2-1).toNat;split
    .simp only[oH];omega
    .simp;omega
   .rw[<-zt];omega
  .omega
theorem GK (L) (i) (x):(ints L).toArray.setIfInBounds i (.int .i64 x)=(ints (L.set i x)).toArray:=by unfold ints;rw[uk];simp
theorem KM (n):madeCells #[Value.int .i64 0] n=(ints (List.replicate n 0)).toArray:=by
 apply yV;intro i;unfold madeCells ints;by_cases h:i<n
 .simp[h,nf]
 .simp[h]
theorem M7 (n:Nat) (x:Int) (a:x=n) (b:n<=1000000) (W):(Instr.makeSlice 33 (.int .i64 x) (.int .i64 x)).run prog W=.ok (.slice (some ⟨W.heap.size,0,none⟩) n n) (W.alloc (.cells (ints (List.replicate n 0)).toArray 3)):=by subst a;rw[<-KM];exact run_make_row' 33 3 (.int .i64 0) 8 qG kG rfl .i64 .i64 n (by omega) (by omega) W
theorem Dh (v) (X) (w) (h:qM w v X) (hl:X.length<=2000):
 Calls prog 135 #[v,(32:Int)] w λe w'=>∃g,e=.returned (.slice (some ⟨g,0,none⟩) 32 32)/\w'.heap[g]?=some (.cells (ints (ML X)).toArray 3 (0,0))/\w.heap.size<=g/\Below w w w':=by
 obtain⟨N,D⟩:=zA X.length;obtain⟨p,cp,hv,Q⟩:=kJ h N D.o;rw[<-D.o]at hl;subst hv;have HP:=za Q;clear h Q;obtain⟨Z,U⟩:=zA (List.replicate 32 (0:Int));have J:∀W,(Instr.makeSlice 33 (.int .i64 (max 0 32)) (.int .i64 (max 0 32))).run prog W=.ok (.slice (some ⟨W.heap.size,0,none⟩) 32 32) (W.alloc (.cells (ints Z).toArray 3)):=λW=>by rw[U.o];exact M7 32 (max 0 32) (by decide) (by omega) W
 have F:Hid ((w.alloc (.cells (ints Z).toArray 3)).heap[w.heap.size]?=some (.cells (ints (ML (X.take 0))).toArray 3 (0,0))):=by have:=zO w (.cells (ints Z).toArray 3);rw[U.o]at this |-;exact this
 go_enter func135,ntmps135
 go_wp2;clear J;go_loopw [14] (λi wr=>∃k:Nat,k<=N/\i=.int .i64 k/\Hid (wr.heap[w.heap.size]?=some (.cells (ints (ML (X.take k))).toArray 3 (0,0)))/\Below w w wr) (λi _=>N-(intOf i).toNat)
 .exact⟨0,yh _,rfl,F,zB.alloc zL _⟩
 .obtain⟨k,hk,rfl,q,m⟩:=hrel;by_cases E:k<N
  .obtain⟨g,o,rfl,G,V⟩:=HP.o (by omega);have z:k<X.length:=(by rw[<-D.o];exact E);have c:=V k z;obtain⟨x,Hx⟩:=zD (X[k].1);obtain⟨n,S⟩:=zD (X[k].2);rw[Hx.o,S.o]at c;have c1:=(m.cell (p:=⟨g,o+k*2,none⟩) G).trans c.1;have c2:=(m.cell (p:=⟨g,o+(k*2+1),none⟩) G).trans c.2;rw[<-yp]at c2;have R:k<(N:Int):=(by omega);have ag:=zr G m.size;have ae:¬g=wr.heap.size:=(by omega);obtain⟨a,d⟩:=N3 X k (by omega);have f:Hid (ML (X.take (k+1))=fQ (ML (X.take k)) n):=(by show _=_;rw[<-zU z,gJ,S.o]);generalize ML (X.take k)=L at *
   have T:=za a;have ac:=xB q.o;have ab:¬w.heap.size=wr.heap.size:=(by omega);have u:Hid ((wr.alloc (.cells #[.string x,n] 112)).heap[w.heap.size]?=some (.cells (ints L).toArray 3 (0,0))):=un q.o _;have t:Hid (Below w w (wr.alloc (.cells #[.string x,n] 112))):=m.alloc m.size _;clear V c;by_cases s:1<=n
   .by_cases l:n<=32
    .have hj:(n-1).toNat<L.length:=(by rw[a];omega);obtain⟨j,I⟩:∃j:Nat,n=(j:Int)+1:=⟨(n-1).toNat,by omega⟩;subst I;have C:((j:Int)+1-1).toNat=j:=(by omega);have B:j<32:=(by omega);obtain⟨y,P⟩:∃y,Hid (L[j]?=some y):=⟨L[j]' (by rw[a];exact B),zk _⟩;have r:L.getD j 0=y:=(by rw[zt,P.o];rfl);have H:=d j;rw[r]at H;have A:Hid (ML (X.take (k+1))=L.set j (y+1)):=(by show _=_;rw[f.o];unfold fQ;rw[ze ⟨s,l⟩,C,r]);have cy:wr.cell? (w.heap.size,j)=some (.int .i64 y):=(by rw[zC q.o];simp[ints,P.o]);have fz:wr.frozen? (w.heap.size,j)=false:=zF q.o;have M:j+1-1=(j:Int):=(by omega);have b2:IntKind.i64.wrap (j+1-1)=j:=(by rw[M];exact zM _ (by omega));have b3:(j:Int)<32:=(by omega);have O:decide (1<=(j:Int)+1)=true:=(by rw[yx];omega);have Y:decide ((j:Int)+1<=32)=true:=(by rw[yx];omega);have b:Hid (((wr.setCell (w.heap.size,j) (.int .i64 (y+1))).alloc (.cells #[.string x,.int .i64 (j+1)] 112)).heap[w.heap.size]?=some (.cells (ints (ML (X.take (k+1)))).toArray 3 (0,0))):=(by have:=zT _ _ j _ _ (.int .i64 (y+1)) q.o;rw[GK]at this;rw[A.o];exact un this _);have K:Hid (Below w w ((wr.setCell (w.heap.size,j) (.int .i64 (y+1))).alloc (.cells #[.string x,.int .i64 (j+1)] 112))):=(m.setCell zL _).alloc (by have:=m.size;simpa[World.setCell]using this) _;clear r C d f q u t a M;go_wp2;go_roundw
     .exact⟨k+1,by omega,by go_num,b,K.o⟩
     .simp[intOf];omega
    .have O:decide (1<=n)=true:=(by rw[yx];exact s);have Y:decide (n<=32)=false:=(by rw[zz];exact l);have b:Hid ((wr.alloc (.cells #[.string x,n] 112)).heap[w.heap.size]?=some (.cells (ints (ML (X.take (k+1)))).toArray 3 (0,0))):=(by show _=_;rw[f.o];unfold fQ;rw[zb (by omega)];exact u.o);clear d a;go_wp2;go_roundw
     .exact⟨k+1,by omega,by go_num,b,t.o⟩
     .simp[intOf];omega
   .have O:decide (1<=n)=false:=(by rw[zz];exact s);have b:Hid ((wr.alloc (.cells #[.string x,n] 112)).heap[w.heap.size]?=some (.cells (ints (ML (X.take (k+1)))).toArray 3 (0,0))):=(by show _=_;rw[f.o];unfold fQ;rw[zb (by omega)];exact u.o);clear d a;go_wp2;go_roundw
    .exact⟨k+1,by omega,by go_num,b,t.o⟩
    .simp[intOf];omega
  .have HT:Hid (X.take k=X):=zo (by rw[<-D.o];omega);rw[HT.o]at q;go_wp2;go_ret;exact⟨_,rfl,q.o,zL,m⟩
