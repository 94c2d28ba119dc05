import Derived.Test.YtmanoiagchpelaaGreatDoorKA3
import Derived.Test.YtmanoiagchpelaaGreatDoorKA8
import Derived.Test.YtmanoiagchpelaaGreatDoorKA15
import Derived.Shelf.Slices.In.SortNone
import Derived.Sort.OwnSortedInts
import Derived.Laws.Rows
set_option maxHeartbeats 0
set_option linter.all false
set_option maxRecDepth 100000
namespace Go.Proofs.YtmanoiagchpelaaGreatDoor
open Go.Proofs.Tryz Go.RowKit Go.Sort
def srtI (l:List Int):List Int:=l.mergeSort fun x y=>decide (x<=y)
theorem Wp (l):(srtI l).Perm l:=sa _ _
theorem Xs (v) (l) (base) (w) (h:w.ownsRow base 3 1 v l.length (ints l)) (x:l.length<=1000000):
 Calls prog 114 #[v] w fun e w'=>e=.returned (.tuple #[])/\w'.ownsRow base 3 1 v l.length (ints (srtI l))/\w.grownBy w' v.ownBlock:=by
 have a:=(Wp l).length_eq;obtain⟨t,⟨rfl,q⟩|⟨g,d,m,rfl,k,f,s,r,p,j⟩⟩:=h
 .have c:=yR.1 q;subst c;refine (Any.slices_Sort_int_none Tryz.lays189 none 0 w).mono fun e w' ⟨i,b⟩=>⟨i,?_,?_⟩
  .rw[b];have e:=yR.1 a;rw[e];exact xd _ _ _ _
  .rw[b];exact⟨rfl,rfl,rfl,zL,fun _ _ _=>rfl⟩
 .rw[uq]at j;have o:=holds_of_blockI f j;refine (Any.slices_Sort_int Tryz.lays189 g 0 d l w o (xR f) (by omega)).mono fun e w' ⟨i,n,u,b⟩=>⟨i,?_,?_⟩
  .rw[b];exact ownsRow_sortedI (by simp) k f s r p
  .rw[b];exact grownBy_sortedI _
end Go.Proofs.YtmanoiagchpelaaGreatDoor
namespace Go.Proofs.YtmanoiagchpelaaGreatDoor
open Go.Proofs.Tryz
variable {P:List Int} {b g k m n:Nat} {e:TypeId} {v:Value} {w:World} {xs:List Value}
def nzF (l:List Int):List Int:=l.filter fun p=> !(p==0)
theorem Vl (a b):nzF (a++b)=nzF a++nzF b:=by unfold nzF;exact oO a b
theorem iX (l):(nzF l).length<=l.length:=vh _ _
def resP (P:List Int) (K:Nat):List Int:=P.take K++List.replicate (K-P.length) 0
def sc (P:List Int) (K:Nat):List Int:=nzF (P.drop K).reverse
def sy (P:List Int) (K:Nat) (s sz:Int):Int:=if sz<s/\sz%64≠0/\(resP P K).getD (K-1) 0≠0 then sz%64 else 0
def blkN (sz:Int):Nat:=(sg sz).toNat
theorem gD (sz):sg sz=(blkN sz):=by unfold blkN sg;split<;>omega
theorem jq {sz:Int} (h:sz<=512):blkN sz<=8:=by unfold blkN sg;split<;>omega
theorem Q2 {a:Int} (h:0<a):0<blkN a:=by unfold blkN sg;split<;>omega
theorem XB (P) (K):(resP P K).length=K:=by unfold resP;rw[zm,zj,yN];omega
theorem PH {K:Nat} (h:K<=P.length):resP P K=P.take K:=by unfold resP;rw[show K-P.length=0 by omega];simp
theorem WR (P) (K):(sc P K).length<=P.length:=by refine zt (iX _) ?_;rw[uh,yB];omega
theorem Oz (P:List Int) (n) (hn):(P.drop n).reverse=(P.drop (n+1)).reverse++[P[n]]:=by rw[xp hn,uA]
theorem It {k m u g s l up:Int} (h:vL k m u g s l up P=0) (o:k≠0):(0<=s/\s<=512)/\tY P=0/\P.length=blkN s/\∀(P') (s'),0<=s'->s'<=512->tY P'=0->P'.length=blkN s'->vL k m u g s' l up P'=0:=by
 unfold vL at h;rw[zb o]at h;split at h
 .omega
 rename_i d;split at h
 .omega
 rename_i i;split at h
 .omega
 rename_i e;split at h
 .rename_i c;exact zY h c
 rename_i c;split at h
 .omega
 rename_i n;refine⟨by omega,by omega,?_,fun P' s' a b j f=>?_⟩
 .have:=gD s;omega
 .have:=gD s';unfold vL;rw[zb o,zb d,zb (by omega),zb e,zb (by omega),zb (by omega)]
theorem Xp (P) (K) (s sz):0<=sy P K s sz/\sy P K s sz<64/\(sy P K s sz=0\/(sy P K s sz=sz%64/\sz<s)):=by
 unfold sy;split
 .rename_i h;exact⟨by omega,by omega,zu ⟨rfl,h.1⟩⟩
 .exact⟨by omega,by omega,zr rfl⟩
open Go.RowKit
theorem mx {b':Nat} (h:w.ownsRow b e k v n xs) (j:b'<=b):w.ownsRow b' e k v n xs:=by
 obtain⟨d,h|⟨g,c,a,f,i,r⟩⟩:=h
 .exact⟨d,zr h⟩
 .exact⟨d,zu ⟨g,c,a,f,zt j i,r⟩⟩
theorem tw {w':World} (h:w.ownsRow b e k v n xs) (l:∀q,v.ownBlock=some q->w'.heap[q]?=w.heap[q]?):w'.ownsRow b e k v n xs:=by
 obtain⟨i,c⟩:=h;refine⟨i,?_⟩;rcases c with c|⟨g,d,a,rfl,j,f,r⟩
 .exact zr c
 .exact zu ⟨g,d,a,rfl,j,(l g rfl).trans f,r⟩
theorem fj {q:Option Addr} {c:Nat} {l:List Int} (h:w.ownsRow b 3 1 (q,n,c) n (ints l)) (u:m<=n):w.ownsRow b 3 1 (q,m,c) m (ints (l.take m)):=by
 obtain⟨i,⟨d,s⟩|⟨g,j,a,d,p,f,t,e,o,k⟩⟩:=h
 .cases d;have:m=0:=by omega
  subst this;exact⟨by simp[ints],zr ⟨rfl,rfl⟩⟩
 .cases d;have r:l.length=n:=by simpa[ints]using i
  refine⟨by simp[ints,zj];omega,zu ⟨g,_,a,rfl,p,f,by omega,e,o,?_⟩⟩;rw[show ints (l.take m)=(ints l).take m by simp[ints],<-k,vj]
  congr 1
  omega
theorem rH {base:Nat} {t:TypeId} {size:Nat} {cs:Array Value} {fr:Nat×Nat} (h:w.ownsRow base e size v n xs) (k:w.heap[g]?=some (.cells cs t fr)) (l:e≠t):∀q,v.ownBlock=some q->q≠g:=by
 intro q a b;subst b;obtain⟨_,⟨rfl,_⟩|⟨j,i,c,rfl,_,f,_⟩⟩:=h
 .simp[Value.ownBlock]at a
 .simp[Value.ownBlock]at a;subst a;rw[f]at k;injection k with k;injection k with _ d;exact l d
def lenV (v:Value):Nat:=match v with|.slice _ n _=>n|_=>0
theorem Ja (l) (x):ints (l++[x])=ints l++[.int .i64 x]:=by simp[ints]
theorem U5 {B:Nat} {a:World} (h:Below B a w) (c:B<=g) (cs):Below B a (w.setRow g cs):=
 ⟨h.os,h.tape,h.output,by simpa using h.size,fun i b=>(xh w g i cs (by omega)).trans (h.block i b)⟩
theorem PI (h:P.length<=m):resP P (m+1)=resP P m++[0]:=by unfold resP;rw[zv (by omega),zv h,show m+1-P.length=(m-P.length)+1 by omega,qN,zP]
theorem jl: (prog.info? 123).map (·.size)=some 8:=by kernel_rfl
theorem UU (a b c d e f g:Int) (v:Value) (i:v.oneCell'=true):(#[Value.int .i64 a,b,c,d,e,f,g,v]:Array Value).all (·.oneCell')=true:=by rw[we];intro x h;simp only[List.mem_toArray,yD,yK,qH]at h;rcases h with rfl|rfl|rfl|rfl|rfl|rfl|rfl|rfl<;>first|rfl|exact i
def iP (k m u g sz l up:Int) (P:List Int) (s:Int) (w:World) (e:Ending) (w':World):Prop:=
 ∃pq pc gv,e=.returned (.tuple #[.agg #[k,m,u,g,sz,l,up,.slice pq (blkN sz) pc],gv,.int .i64 (sy P (blkN sz) s sz),()]) /\
  w'.ownsRow w 3 1 (pq,(blkN sz),pc) (blkN sz) (ints (resP P (blkN sz)))/\w'.ownsRow w 3 1 gv (sc P (blkN sz)).length (ints (srtI (sc P (blkN sz))))/\Below w w w'/\∀b,(Value.slice pq (blkN sz) pc).ownBlock=some b->gv.ownBlock≠some b
theorem SB (
 k m u g s l up:Int) (v:Value) (P:List Int) (sz:Int) (w:World) (h:vT w v P) (hr:vL k m u g s l up P=0) (hk:k≠0) (h0:0<=sz) (h1:sz<=512):
 Calls prog 110 #[.agg #[k,m,u,g,s,l,up,v],sz] w (iP k m u g sz l up P s w):=by
 unfold iP;obtain⟨K,HK⟩:=zD (blkN sz);have cz:K<=8:=by rw[<-HK.o];exact jq h1
 have bV:Hid (sg sz=(K:Int)):=by show _=_;rw[gD,HK.o]
 rw[HK.o];obtain⟨bN,bO,aT,_⟩:=It hr hk;have aX:P.length<=8:=by rw[aT];exact jq bN.2
 have cf:Hid (0<sz->0<K):=fun h=>by rw[<-HK.o];exact Q2 h
 obtain⟨N,V⟩:=zD P.length;rw[V.o]at aX;obtain⟨pv,B,hv⟩:∃p c,v=.slice p N c:=by
  rw[<-V.o];obtain⟨_,⟨h0,a0,c0,rfl⟩|⟨g,o,br,rfl,Y⟩⟩:=h
  .exact⟨a0,c0,by rw[h0]⟩
  .exact⟨_,br,rfl⟩
 subst hv;have ai:Hid (Below w w ((w.alloc (.cells #[k,m,u,g,s,l,up,(pv,N,B)] 123)).alloc (.cells #[(),(),(),(),(),(),(),.slice none 0 0] 123))):=(zB.alloc zL _).alloc (by simp) _;have HR:=za (UH k m u g s l up (pv,N,B) P ((w.alloc (.cells #[k,m,u,g,s,l,up,(pv,N,B)] 123)).alloc (.cells #[(),(),(),(),(),(),(),.slice none 0 0] 123)) (wh.below h ai.o) (by rw[V.o];omega));rw[hr]at HR;have bh:Hid (((w.alloc (.cells #[k,m,u,g,s,l,up,(pv,N,B)] 123)).alloc (.cells #[(),(),(),(),(),(),(),.slice none 0 0] 123)).heap[w.heap.size]?=some (.cells #[k,m,u,g,s,l,up,(pv,N,B)] 123)):=tA (zT w _) _;have bA:Hid (((w.alloc (.cells #[k,m,u,g,s,l,up,(pv,N,B)] 123)).alloc (.cells #[(),(),(),(),(),(),(),.slice none 0 0] 123)).heap[w.heap.size+1]?=some (.cells #[(),(),(),(),(),(),(),.slice none 0 0] 123)):=by have:=zT (w.alloc (.cells #[k,m,u,g,s,l,up,(pv,N,B)] 123)) (.cells #[(),(),(),(),(),(),(),.slice none 0 0] 123);rw[show (w.alloc (.cells #[k,m,u,g,s,l,up,(pv,N,B)] 123)).heap.size=w.heap.size+1 by simp]at this;exact this
 have HI:=za h;have ct:(k==0)=false:=by simpa using hk
 clear bO aT hr hk h;go_enter func110,ntmps110;go_wp2_with fail
 refine HR.o.mono ?_;rintro e F ⟨rfl,an⟩;have X:Hid (Below w w F):=ai.o.trans (an.mono ai.o.size);have aG:=za (wy an bh.o);have bB:=za (wy an bA.o);obtain⟨q0,q1,q2,q3,q4,q5,q6,q7⟩:=ka aG.o;have bc:=za (fun W=>VS sz W (by omega) (by omega));rw[bV.o]at bc;have b0:=za (U4 (pv,N,B) P F (wh.below HI.o X.o) (by rw[V.o];omega));unfold gJ at b0;clear an ai HR bh bA;go_wp2_with fail
 refine (bc.o _).mono ?_;rintro e w' ⟨rfl,rfl⟩;go_wp2_with fail
 refine b0.o.mono ?_;rintro e I ⟨v2,rfl,U,T,_⟩;have c8:Hid (Below w w I):=X.o.trans (T.mono X.o.size);have cB:=za (wy T aG.o);have c4:=za (wy T bB.o);have bu:=T.size;obtain⟨x2,c2,aB,a4⟩:=tV U;rw[V.o]at aB U a4;subst aB;have a9:=za U;have c7:N<=c2:=by
  obtain⟨_,⟨hv,h0⟩|⟨g',br,cr,hv,_,_,Y,_⟩⟩:=U
  .cases hv;omega
  .cases hv;exact Y
 have bo:Hid (0<N->∃g,x2=some ⟨g,0,none⟩/\g<I.heap.size/\∀(j:Nat) (x:Value),(ints P)[j]?=some x->I.cell? ⟨g,j,none⟩=some x):=fun h0=>by obtain⟨g,rfl,_,Y⟩:=a4 h0;exact⟨g,rfl,(U.lt g rfl).2,Y⟩
 have bI:Hid (Below F F I):=T;clear U a4 T q0 q1 q2 q3 q4 q5 q6 q7;obtain⟨i0,bk,ba,bs,bg⟩:=xy jP;have b9:=za bk;have aY:=za ba;have aV:=za bs;have be:=za bg;clear bk ba bs bg;go_wp2;go_loopw [10,11] (fun pt gt wr=>∃n:Nat,n<=N/\(K<=n\/n=N)/\pt=.slice x2 n c2/\Hid (wr.ownsRow I 3 1 gt (nzF (P.drop n).reverse).length (ints (nzF (P.drop n).reverse)))/\Hid (n=N->gt=.slice none 0 0)/\Below I I wr) (fun pt _ _=>lenV pt-K);case atStart=>exact⟨N,zL,zu rfl,rfl,by show World.ownsRow _ _ _ _ _ _ _;rw[yP (by rw[V.o];exact zL)];exact xd _ _ _ _,fun _=>rfl,zB⟩
 case round=>
  obtain⟨n,hn,ce,rfl,HG,bt,HB⟩:=hrel;by_cases ae:K<n
  .obtain⟨gx,rfl,hg,Y⟩:=bo.o (by omega);have bx:n-1<P.length:=(by rw[V.o];omega);obtain⟨p,Hp⟩:=zD (P[n-1]);have aQ:=Y (n-1) (.int .i64 p) (by rw[<-Hp.o];simp[ints,zh bx]);have cp:=(HB.cell (p:=⟨gx,n-1,none⟩) hg).trans aQ;have HT:Hid ((P.drop (n-1)).reverse=(P.drop n).reverse++[p]):=(by show _=_;have:=Oz P (n-1) bx;rw[show n-1+1=n by omega,Hp.o]at this;exact this);have b1:decide ((K:Int)<(n:Int))=true:=(by rw[yJ];omega);have b2:(n:Int)-1=((n-1:Nat):Int):=(by omega);have b3:IntKind.i64.wrap ((n:Int)-1)=((n-1:Nat):Int):=(by rw[b2];exact zQ _ (by omega));have b4:n-1<=c2:=(by omega);have b5:n-1<n:=(by omega);have a7:=(iX (P.drop n).reverse);rw[uh,yB,V.o]at a7;have cn:(nzF (P.drop n).reverse).length<=8:=(by omega);clear a7 Y aQ b2;have a8:Hid (∀q,u11.ownBlock=some q->I.heap.size<=q):=fun q hq=>(HG.o.lt q hq).1;have aF:Hid ((wr.alloc (.cells #[p] 3)).heap[wr.heap.size]?=some (.cells #[p] 3)):=zH;have a5:=HB.size;by_cases hp:p=0
   .have aE:Hid (wr.ownsRow I 3 1 u11 (nzF (P.drop (n-1)).reverse).length (ints (nzF (P.drop (n-1)).reverse))):=(by show World.ownsRow _ _ _ _ _ _ _;rw[HT.o,Vl,hp,show nzF [0]=[] from rfl,yX];exact HG.o);have bp:(p==0)=true:=(by simpa using hp);have bW:(p != 0)=false:=(by simp[bne,bp]);have bH:=za hp;clear hp;go_wp2;go_roundw;case rel=>exact⟨n-1,by omega,by omega,rfl,aE,fun h=>by omega,HB⟩
    case measure=>simp[lenV];omega
   .have aE:Hid (nzF (P.drop (n-1)).reverse=nzF (P.drop n).reverse++[p]):=by
     show _=_;rw[HT.o,Vl]
     congr 1
     unfold nzF;rw[List.filter_cons_of_pos (by simpa using hp)];rfl
    have bp:(p==0)=false:=(by simpa using hp);have bW:(p != 0)=true:=(by simp[bne,bp]);have bJ:=za (HG.o.alloc (.cells #[p] 3));have bH:=za hp;clear hp;go_wp2_with (at_builtin;refine yI _ rfl _ _ 33 rfl I.heap.size 3 i0 (.int .i64 0) 1 8 lB b9.o aY.o aV.o be.o rfl (by decide) _ _ _ rfl bJ.o ⟨_,0,none⟩ 1 1 [.int .i64 p] rfl rfl (xE (cs:=#[.int .i64 p]) (t:=3) (fr:=(0,0)) aF.o) (by simp[Value.oneCell']) (by unfold maxLen;omega) (by omega) (by simp;omega) ?_;intro v' w3 C A _)
    have a6:Hid (w3.ownsRow I 3 1 v' (nzF (P.drop (n-1)).reverse).length (ints (nzF (P.drop (n-1)).reverse))):=(by show World.ownsRow _ _ _ _ _ _ _;rw[aE.o,zm,Ja];exact C);have aC:Below I I w3:=xB (HB.alloc a5 _) A (by simp;omega) a8.o;clear C A;go_wp2;go_roundw;case rel=>exact⟨n-1,by omega,by omega,rfl,a6,fun h=>by omega,aC⟩
    case measure=>simp[lenV];omega
  .have ca:n<=P.length:=(by rw[V.o];exact hn);have bQ:Hid (nzF (P.drop n).reverse=sc P K):=by
    show _=_;unfold sc;by_cases e:n=K
    .rw[e]
    .rw[yP (by rw[V.o];omega),yP (by rw[V.o];omega)]
   rw[bQ.o]at HG;have bd:Hid (wr.ownsRow F 3 1 (x2,n,c2) n (ints (resP P n))):=(by show World.ownsRow _ _ _ _ _ _ _;rw[PH ca];have bl:=fj a9.o hn;exact tw bl fun q hq=>HB.block q (bl.lt q hq).2);have ax:Hid (u11=.slice none 0 0\/(n=K/\∀b,(Value.slice x2 n c2).ownBlock=some b->u11.ownBlock≠some b)):=by
    by_cases e:n=K
    .refine zu ⟨e,fun b a h2=>?_⟩;have h3:=((fj a9.o hn).lt b a).2;have h4:=(HG.o.lt b h2).1;omega
    .exact zr (bt.o (by omega))
   have bz:Hid (Below F F wr):=bI.o.trans (HB.mono bu);have a7:(sc P K).length<=8:=(by have:=WR P K;rw[V.o]at this;omega);have cx:decide (K<n)=false:=(by rw[zM];exact ae);have bC:N<=n\/n=K:=(by omega);have aR:n<=K:=(by omega);clear HB bt a9 bo ce ae;go_wp2;go_loopw [10] (fun pt wq=>∃(j c:Nat) (q:Option Addr),j<=K/\(N<=j\/j=K)/\pt=.slice q j c/\Hid (wq.ownsRow F 3 1 (q,j,c) j (ints (resP P j)))/\Hid (wq.ownsRow I 3 1 u11 (sc P K).length (ints (sc P K)))/\Hid (u11=.slice none 0 0\/(j=K/\∀b,(Value.slice q j c).ownBlock=some b->u11.ownBlock≠some b))/\Hid (Below F F wq)) (fun pt _=>K-lenV pt);case atStart=>exact⟨n,c2,x2,aR,bC,rfl,bd,HG,ax,bz⟩
   case round=>
    obtain⟨j,c,q,hj,bK,rfl,Z,aj,am,aa⟩:=hrel;by_cases ae:j<K
    .have av:Hid (u11=.slice none 0 0):=by
      rcases am.o with h|⟨h,_⟩
      .exact h
      .omega
     have a5:=aa.o.size;have cg:=za (Z.o.alloc (.cells #[()] 3));have aF:Hid ((wr.alloc (.cells #[()] 3)).heap[wr.heap.size]?=some (.cells #[()] 3)):=zH;have a8:Hid (∀b,(Value.slice q j c).ownBlock=some b->F.heap.size<=b):=fun b a=>(Z.o.lt b a).1;have ch:Hid (resP P (j+1)=resP P j++[0]):=PI (by rw[V.o];omega);go_wp2_with (at_builtin;refine yI _ rfl _ _ 33 rfl F.heap.size 3 i0 (.int .i64 0) 1 8 lB b9.o aY.o aV.o be.o rfl (by decide) _ _ _ rfl cg.o ⟨_,0,none⟩ 1 1 [.int .i64 0] rfl rfl (xE (cs:=#[.int .i64 0]) (t:=3) (fr:=(0,0)) aF.o) (by simp[Value.oneCell']) (by unfold maxLen;omega) (by omega) (by simp;omega) ?_;intro v' w3 C A _)
     obtain⟨q',c',aI,_⟩:=tV C;subst aI;have a6:Hid (w3.ownsRow F 3 1 (q',(j+1),c') (j+1) (ints (resP P (j+1)))):=(by show World.ownsRow _ _ _ _ _ _ _;rw[ch.o,Ja];exact C);have aC:Hid (Below F F w3):=xB (aa.o.alloc a5 _) A (by simp;omega) a8.o;have bZ:Hid (w3.ownsRow I 3 1 u11 (sc P K).length (ints (sc P K))):=tw aj.o fun b a=>(by rw[av.o]at a;simp[Value.ownBlock]at a);have bP:Hid (u11=.slice none 0 0\/(j+1=K/\∀b,(Value.slice q' (j+1) c').ownBlock=some b->u11.ownBlock≠some b)):=zr av.o;clear C A;go_wp2;go_roundw;case rel=>exact⟨j+1,c',q',by omega,by omega,rfl,a6,bZ,bP,aC⟩
     case measure=>simp[lenV];omega
    .obtain rfl:K=j:=(by omega);have cd:=za (Xs u11 (sc P K) I wr aj.o (by omega));go_wp2_with fail
     refine cd.o.mono ?_;rintro e D ⟨rfl,aS,aL⟩;have ak:Hid (∀b,(Value.slice q K c).ownBlock=some b->u11.ownBlock≠some b):=fun b a=>by
      rcases am.o with h|⟨_,h⟩
      .rw[h];simp[Value.ownBlock]
      .exact h b a
     have S:Hid (D.ownsRow F 3 1 (q,K,c) K (ints (resP P K))):=tw Z.o fun b a=>aL.block b (Z.o.lt b a).2 (fun e=>by
      rcases am.o with h|⟨_,h⟩
      .rw[h]at e;simp[Value.ownBlock]at e
      .exact h b a e.symm)
     have a3:=za aS;have al:Hid (Below F F D):=xB aa.o aL aa.o.size (fun b a=>by have:=(aj.o.lt b a).1;omega);have O:Hid (D.heap[w.heap.size]?=some (.cells #[k,m,u,g,s,l,up,(pv,N,B)] 123)):=wy al.o aG.o;have aK:Hid (D.heap[w.heap.size+1]?=some (.cells #[(),(),(),(),(),(),(),.slice none 0 0] 123)):=wy al.o bB.o;have a1:Hid (Below w w D):=X.o.trans (al.o.mono X.o.size);have bS:Hid (0<K->∃g,q=some ⟨g,0,none⟩/\∀(i:Nat) (x:Value),(ints (resP P K))[i]?=some x->D.cell? ⟨g,i,none⟩=some x):=fun h0=>(by obtain⟨q',c',aI,hx⟩:=tV S.o;cases aI;obtain⟨g,rfl,_,Y⟩:=hx h0;exact⟨g,rfl,Y⟩);obtain⟨z0,z1,z2,z3,z4,z5,z6,z7⟩:=ka O.o;have c1:w.heap.size<D.heap.size:=xR O.o;have aB:w.heap.size+1<D.heap.size:=xR aK.o;have fz:∀i,D.frozen? ⟨w.heap.size,i,none⟩=false:=fun i=>zF O.o;have c6:=fz 4;have cE:=fz 7;have bM:Hid ((resP P K).length=K):=XB P K;clear aS aL fz Z aj am aa bd HG ax bz bC aR ae bK hj;have f:=rH S.o O.o (by decide);have r:=rH a3.o O.o (by decide);have ag:∀b,b≠w.heap.size->((D.setCell (w.heap.size,4) (.int .i64 sz)).setCell (w.heap.size,7) (q,K,c)).heap[b]?=D.heap[b]? :=fun b a=>(yE _ _ _ b a).trans (yE _ _ _ b a);have ah:Hid (((D.setCell (w.heap.size,4) (.int .i64 sz)).setCell (w.heap.size,7) (q,K,c)).heap[w.heap.size]?=some (.cells #[k,m,u,.int .i64 g,sz,l,up,(q,K,c)] 123)):=yb _ _ 7 _ _ (q,K,c) (yb _ _ 4 _ _ (.int .i64 sz) O.o);have d:Hid (((D.setCell (w.heap.size,4) (.int .i64 sz)).setCell (w.heap.size,7) (q,K,c)).heap[w.heap.size+1]?=some (.cells #[(),(),(),(),(),(),(),.slice none 0 0] 123)):=(ag _ (by omega)).trans aK.o;have z:Hid (((D.setCell (w.heap.size,4) (.int .i64 sz)).setCell (w.heap.size,7) (q,K,c)).ownsRow F 3 1 (q,K,c) K (ints (resP P K))):=tw S.o fun b a=>ag b (f b a);have H:Hid (((D.setCell (w.heap.size,4) (.int .i64 sz)).setCell (w.heap.size,7) (q,K,c)).ownsRow I 3 1 u11 (sc P K).length (ints (srtI (sc P K)))):=tw a3.o fun b a=>ag b (r b a);have af:Hid (Below w w ((D.setCell (w.heap.size,4) (.int .i64 sz)).setCell (w.heap.size,7) (q,K,c))):=(a1.o.setCell zL _).setCell zL _;have ad:=X.o.size;clear f r ag O aK S a3 a1 al;by_cases R:sz<s
     .have b1:decide (sz<s)=true:=(by rw[yJ];exact R);by_cases hm:sz%64=0
      .have b2:(sz%64==0)=true:=(by simpa using hm);have b3:(sz%64 != 0)=false:=(by simp[bne,b2]);have HT:Hid (sy P K s sz=0):=(by show _=_;unfold sy;rw[zb (fun h=>h.2.1 hm)]);clear hm
       go_upto_region 25 with fail
       generalize ((D.setCell (w.heap.size,4) (.int .i64 sz)).setCell (w.heap.size,7) (q,K,c))=E at *
       obtain⟨q0,q1,q2,q3,q4,q5,q6,q7⟩:=ka ah.o;have f:=rH z.o d.o (by decide);have r:=rH H.o d.o (by decide);have L:Hid ((E.setRow (w.heap.size+1) #[k,m,u,g,sz,l,up,(q,K,c)]).heap[w.heap.size+1]?=some (.cells #[k,m,u,g,sz,l,up,(q,K,c)] 123)):=yh _ _ _ _ _ _ d.o;have M:Hid (Below w w (E.setRow (w.heap.size+1) #[k,m,u,g,sz,l,up,(q,K,c)])):=U5 af.o (by omega) _;have J:Hid ((E.setRow (w.heap.size+1) #[k,m,u,g,sz,l,up,(q,K,c)]).ownsRow w 3 1 (q,K,c) K (ints (resP P K))):=mx (tw z.o fun b a=>xh _ _ _ _ (f b a)) ad;have Q:Hid ((E.setRow (w.heap.size+1) #[k,m,u,g,sz,l,up,(q,K,c)]).ownsRow w 3 1 u11 (sc P K).length (ints (srtI (sc P K)))):=mx (tw H.o fun b a=>xh _ _ _ _ (r b a)) (by omega);clear f r;go_wp2_with (refine yG rfl 123 (.tmp 4) (.tmp 91) rfl (w.heap.size+1) #[k,m,u,g,sz,l,up,(q,K,c)] rfl rfl 123 _ d.o jl rfl (UU _ _ _ _ _ _ _ _ rfl) ?_)
       obtain⟨z0,z1,z2,z3,z4,z5,z6,z7⟩:=ka L.o;exact yV (v:=.tuple #[.agg #[k,m,u,g,sz,l,up,(q,K,c)],u11,.int .i64 (sy P K s sz),()]) (by simp[results,rZ,go_sem,z0,z1,z2,z3,z4,z5,z6,z7,HT.o]) rfl ⟨q,c,u11,rfl,J.o,Q.o,M.o,ak.o⟩
      .have b2:(sz%64==0)=false:=(by simpa using hm);have b3:(sz%64 != 0)=true:=(by simp[bne,b2]);have bU:0<K:=cf.o (by omega);obtain⟨G,rfl,Y⟩:=bS.o bU;have bn:K-1<(resP P K).length:=(by rw[bM.o];omega);obtain⟨y,Hy⟩:=zD ((resP P K)[K-1]);have c5:=Y (K-1) (.int .i64 y) (by rw[<-Hy.o];simp[ints,zh bn]);have bv:Hid ((resP P K).getD (K-1) 0=y):=(by show _=_;rw[zi,zh bn,<-Hy.o];rfl);have b4:(K:Int)-1=((K-1:Nat):Int):=(by omega);have b5:IntKind.i64.wrap ((K:Int)-1)=((K-1:Nat):Int):=(by rw[b4];exact zQ _ (by omega));have b6:K-1<K:=(by omega);clear Y b4;by_cases hy:y=0
       .have b7:(y==0)=true:=(by simpa using hy);have b8:(y != 0)=false:=(by simp[bne,b7]);have HT:Hid (sy P K s sz=0):=(by show _=_;unfold sy;rw[zb (fun h=>h.2.2 (by rw[bv.o];exact hy))]);clear hy hm
        go_upto_region 25 with fail
        generalize ((D.setCell (w.heap.size,4) (.int .i64 sz)).setCell (w.heap.size,7) (G,0,K,c))=E at *
        obtain⟨q0,q1,q2,q3,q4,q5,q6,q7⟩:=ka ah.o;have f:=rH z.o d.o (by decide);have r:=rH H.o d.o (by decide);have L:Hid ((E.setRow (w.heap.size+1) #[k,m,u,g,sz,l,up,(G,0,K,c)]).heap[w.heap.size+1]?=some (.cells #[k,m,u,g,sz,l,up,(G,0,K,c)] 123)):=yh _ _ _ _ _ _ d.o;have M:Hid (Below w w (E.setRow (w.heap.size+1) #[k,m,u,g,sz,l,up,(G,0,K,c)])):=U5 af.o (by omega) _;have J:Hid ((E.setRow (w.heap.size+1) #[k,m,u,g,sz,l,up,(G,0,K,c)]).ownsRow w 3 1 (G,0,K,c) K (ints (resP P K))):=mx (tw z.o fun b a=>xh _ _ _ _ (f b a)) ad;have Q:Hid ((E.setRow (w.heap.size+1) #[k,m,u,g,sz,l,up,(G,0,K,c)]).ownsRow w 3 1 u11 (sc P K).length (ints (srtI (sc P K)))):=mx (tw H.o fun b a=>xh _ _ _ _ (r b a)) (by omega);clear f r;go_wp2_with (refine yG rfl 123 (.tmp 4) (.tmp 91) rfl (w.heap.size+1) #[k,m,u,g,sz,l,up,(G,0,K,c)] rfl rfl 123 _ d.o jl rfl (UU _ _ _ _ _ _ _ _ rfl) ?_)
        obtain⟨z0,z1,z2,z3,z4,z5,z6,z7⟩:=ka L.o;exact yV (v:=.tuple #[.agg #[k,m,u,g,sz,l,up,(G,0,K,c)],u11,.int .i64 (sy P K s sz),()]) (by simp[results,rZ,go_sem,z0,z1,z2,z3,z4,z5,z6,z7,HT.o]) rfl ⟨_,c,u11,rfl,J.o,Q.o,M.o,ak.o⟩
       .have b7:(y==0)=false:=(by simpa using hy);have b8:(y != 0)=true:=(by simp[bne,b7]);have HT:Hid (sy P K s sz=sz%64):=(by show _=_;unfold sy;rw[ze ⟨R,hm,by rw[bv.o];exact hy⟩]);clear hy hm
        go_upto_region 25 with fail
        generalize ((D.setCell (w.heap.size,4) (.int .i64 sz)).setCell (w.heap.size,7) (G,0,K,c))=E at *
        obtain⟨q0,q1,q2,q3,q4,q5,q6,q7⟩:=ka ah.o;have f:=rH z.o d.o (by decide);have r:=rH H.o d.o (by decide);have L:Hid ((E.setRow (w.heap.size+1) #[k,m,u,g,sz,l,up,(G,0,K,c)]).heap[w.heap.size+1]?=some (.cells #[k,m,u,g,sz,l,up,(G,0,K,c)] 123)):=yh _ _ _ _ _ _ d.o;have M:Hid (Below w w (E.setRow (w.heap.size+1) #[k,m,u,g,sz,l,up,(G,0,K,c)])):=U5 af.o (by omega) _;have J:Hid ((E.setRow (w.heap.size+1) #[k,m,u,g,sz,l,up,(G,0,K,c)]).ownsRow w 3 1 (G,0,K,c) K (ints (resP P K))):=mx (tw z.o fun b a=>xh _ _ _ _ (f b a)) ad;have Q:Hid ((E.setRow (w.heap.size+1) #[k,m,u,g,sz,l,up,(G,0,K,c)]).ownsRow w 3 1 u11 (sc P K).length (ints (srtI (sc P K)))):=mx (tw H.o fun b a=>xh _ _ _ _ (r b a)) (by omega);clear f r;go_wp2_with (refine yG rfl 123 (.tmp 4) (.tmp 91) rfl (w.heap.size+1) #[k,m,u,g,sz,l,up,(G,0,K,c)] rfl rfl 123 _ d.o jl rfl (UU _ _ _ _ _ _ _ _ rfl) ?_)
        obtain⟨z0,z1,z2,z3,z4,z5,z6,z7⟩:=ka L.o;exact yV (v:=.tuple #[.agg #[k,m,u,g,sz,l,up,(G,0,K,c)],u11,.int .i64 (sy P K s sz),()]) (by simp[results,rZ,go_sem,z0,z1,z2,z3,z4,z5,z6,z7,HT.o]) rfl ⟨_,c,u11,rfl,J.o,Q.o,M.o,ak.o⟩
     .have b1:decide (sz<s)=false:=(by rw[zM];exact R);have HT:Hid (sy P K s sz=0):=by show _=_;unfold sy;rw[zb (fun h=>R h.1)]
      go_upto_region 25 with fail
      generalize ((D.setCell (w.heap.size,4) (.int .i64 sz)).setCell (w.heap.size,7) (q,K,c))=E at *
      obtain⟨q0,q1,q2,q3,q4,q5,q6,q7⟩:=ka ah.o;have f:=rH z.o d.o (by decide);have r:=rH H.o d.o (by decide);have L:Hid ((E.setRow (w.heap.size+1) #[k,m,u,g,sz,l,up,(q,K,c)]).heap[w.heap.size+1]?=some (.cells #[k,m,u,g,sz,l,up,(q,K,c)] 123)):=yh _ _ _ _ _ _ d.o;have M:Hid (Below w w (E.setRow (w.heap.size+1) #[k,m,u,g,sz,l,up,(q,K,c)])):=U5 af.o (by omega) _;have J:Hid ((E.setRow (w.heap.size+1) #[k,m,u,g,sz,l,up,(q,K,c)]).ownsRow w 3 1 (q,K,c) K (ints (resP P K))):=mx (tw z.o fun b a=>xh _ _ _ _ (f b a)) ad;have Q:Hid ((E.setRow (w.heap.size+1) #[k,m,u,g,sz,l,up,(q,K,c)]).ownsRow w 3 1 u11 (sc P K).length (ints (srtI (sc P K)))):=mx (tw H.o fun b a=>xh _ _ _ _ (r b a)) (by omega);clear f r;go_wp2_with (refine yG rfl 123 (.tmp 4) (.tmp 91) rfl (w.heap.size+1) #[k,m,u,g,sz,l,up,(q,K,c)] rfl rfl 123 _ d.o jl rfl (UU _ _ _ _ _ _ _ _ rfl) ?_)
      obtain⟨z0,z1,z2,z3,z4,z5,z6,z7⟩:=ka L.o;exact yV (v:=.tuple #[.agg #[k,m,u,g,sz,l,up,(q,K,c)],u11,.int .i64 (sy P K s sz),()]) (by simp[results,rZ,go_sem,z0,z1,z2,z3,z4,z5,z6,z7,HT.o]) rfl ⟨q,c,u11,rfl,J.o,Q.o,M.o,ak.o⟩
structure Nd where
 k:Int
 m:Int
 u:Int
 g:Int
 s:Int
 l:Int
 up:Int
 q:Option Addr
 n:Nat
 c:Nat
def nd8 (x:Nd):List Value:=[.int .i64 x.k,.int .i64 x.m,.int .i64 x.u,.int .i64 x.g,.int .i64 x.s,.int .i64 x.l,.int .i64 x.up,.slice x.q x.n x.c]
def uG (E:List Nd):List Value:=E.flatMap nd8
theorem N7 (E):(uG E).length=E.length*8:=by
 induction E with
 | nil=>rfl
 | cons x E a=>simp only[uG,xo,zm,yx]at *;simp only[nd8,yx,xS];omega
theorem N8 (E) (k) (hk) (j) (c:j<8):(uG E)[k*8+j]?=(nd8 E[k])[j]? :=by
 induction E generalizing k with
 | nil=>simp at hk
 | cons x E b=>
  have e:uG (x::E)=nd8 x++uG E:=rfl;have a:(nd8 x).length=8:=rfl;rw[e];cases k with
  | zero=>rw[zX (by rw[a];omega),uL,yO];rfl
  | succ k=>
   rw[zy (by rw[a];omega),a,show (k+1)*8+j-8=k*8+j by omega];exact b k (by simpa using hk)
theorem mN {o:Nat} {E:List Nd} (d:∀(j) (x),(uG E)[j]?=some x->w.cell? ⟨g,o+j,none⟩=some x) (k) (hk):
 w.cell? ⟨g,o+k*8,none⟩=some (.int .i64 E[k].k)/\w.cell? ⟨g,o+k*8+1,none⟩=some (.int .i64 E[k].m)/\w.cell? ⟨g,o+k*8+2,none⟩=some (.int .i64 E[k].u)/\w.cell? ⟨g,o+k*8+3,none⟩=some (.int .i64 E[k].g) /\
 w.cell? ⟨g,o+k*8+4,none⟩=some (.int .i64 E[k].s)/\w.cell? ⟨g,o+k*8+5,none⟩=some (.int .i64 E[k].l)/\w.cell? ⟨g,o+k*8+6,none⟩=some (.int .i64 E[k].up)/\w.cell? ⟨g,o+k*8+7,none⟩=some (.slice E[k].q E[k].n E[k].c):=by
 have h:=fun j b v a=>d (k*8+j) v ((N8 E k hk j b).trans a);refine⟨h 0 (by omega) _ rfl,?_,?_,?_,?_,?_,?_,?_⟩
 .rw[yC];exact h 1 (by omega) _ rfl
 .rw[yC];exact h 2 (by omega) _ rfl
 .rw[yC];exact h 3 (by omega) _ rfl
 .rw[yC];exact h 4 (by omega) _ rfl
 .rw[yC];exact h 5 (by omega) _ rfl
 .rw[yC];exact h 6 (by omega) _ rfl
 .rw[yC];exact h 7 (by omega) _ rfl
theorem jT {E:List Nd} (h:wh w v 8 E.length (uG E)):∃p cp,v=.slice p E.length cp/\Hid (0<E.length->∃g o,p=some ⟨g,o,none⟩/\g<w.heap.size/\∀(j) (x),(uG E)[j]?=some x->w.cell? ⟨g,o+j,none⟩=some x):=by
 obtain⟨_,⟨b,d,e,rfl⟩|⟨g,o,a,rfl,c⟩⟩:=h
 .exact⟨d,e,by rw[b],fun h=>by omega⟩
 .refine⟨_,a,rfl,fun b=>⟨g,o,rfl,?_,c⟩⟩;exact zG (mN c 0 b).1
def m8 (x:Nd) (H:List Int) (i:Int):Bool:= !(x.k==0)&&(x.l==0)&&!(H.contains i)
def qw (E:List Nd) (H:List Int):Nat->List Int
 | 0=>[]
 | k+1=>qw E H k++(match E[k]? with|some x=>if m8 x H (k+1)=true then [k+1] else []|none=>[])
theorem Mb {E:List Nd} {H:List Int} (hk):qw E H (k+1)=qw E H k++(if m8 E[k] H (k+1)=true then [(k:Int)+1] else []):=by rw[qw,zh hk]
theorem WH (E) (H):∀k,(qw E H k).length<=k
 | 0=>zL
 | k+1=>by
  have a:=WH E H k;rw[qw,zm];split
  .split<;>simp<;>omega
  .simp;omega
theorem RU (
 v hv) (E) (H) (w) (h1:wh w v 8 E.length (uG E)) (h2:vT w hv H) (hl:E.length<=1000) (ad:H.length<=1000000):
 Calls prog 99 #[v,hv] w fun e w'=>∃r,e=.returned r/\w'.ownsRow w 3 1 r (qw E H E.length).length (ints (qw E H E.length))/\Below w w w':=by
 obtain⟨p,cp,rfl,HP⟩:=jT h1;obtain⟨N,HN⟩:=zD E.length;have H2:=za h2;obtain⟨ph,nh,ch,ab⟩:∃p n c,hv=.slice p n c:=by
  obtain⟨_,⟨h0,a0,c0,rfl⟩|⟨g,o,ax,rfl,hc⟩⟩:=h2
  .exact⟨a0,_,c0,rfl⟩
  .exact⟨_,_,ax,rfl⟩
 subst ab;rw[HN.o]at hl HP;rw[HN.o];obtain⟨i0,S,L,U,Q⟩:=xy jP;have az:=za S;have al:=za L;have ag:=za U;have ap:=za Q;clear h1 h2 S L U Q;go_enter func99,ntmps99;go_wp2;go_loopw [5,10] (fun o i wr=>∃k:Nat,k<=N/\i=.int .i64 k/\Hid (wr.ownsRow w 3 1 o (qw E H k).length (ints (qw E H k)))/\Below w w wr) (fun _ i _=>N-(intOf i).toNat);case atStart=>exact⟨0,ye _,rfl,xd _ _ _ _,zB⟩
 case round=>
  obtain⟨k,hk,rfl,HO,f⟩:=hrel;by_cases ai:k<N
  .obtain⟨g,o,rfl,s,hc⟩:=HP.o (by omega);have T:k<E.length:=(by rw[HN.o];exact ai);obtain⟨d0,d1,d2,d3,d4,d5,d6,d7⟩:=mN hc k T;have D:=za (Mb (H:=H) T);generalize E[k]=x at d0 d1 d2 d3 d4 d5 d6 d7 D;obtain⟨h,I,P,V,O,d,l,R,F,W⟩:=x;have c0:=(f.cell (p:=⟨g,o+k*8,none⟩) s).trans d0;have c1:=(f.cell (p:=⟨g,o+k*8+1,none⟩) s).trans d1;have c2:=(f.cell (p:=⟨g,o+k*8+2,none⟩) s).trans d2;have c3:=(f.cell (p:=⟨g,o+k*8+3,none⟩) s).trans d3;have c4:=(f.cell (p:=⟨g,o+k*8+4,none⟩) s).trans d4;have c5:=(f.cell (p:=⟨g,o+k*8+5,none⟩) s).trans d5;have c6:=(f.cell (p:=⟨g,o+k*8+6,none⟩) s).trans d6;have c7:=(f.cell (p:=⟨g,o+k*8+7,none⟩) s).trans d7;dsimp only at c0 c1 c2 c3 c4 c5 c6 c7;have a1:k<(N:Int):=(by omega);have a6:=zo s f.size;have a5:¬g=wr.heap.size:=(by omega);have ae:=f.size;have X:Below w w (wr.alloc (.cells #[h,I,P,V,O,d,l,(R,F,W)] 123)):=f.alloc ae _;have b:=za X;have Y:=za (fun o=>HO.o.alloc o);have A:=HO.o.lt;have ak:=za (fun q hq=>(A q hq).1);have aI:=WH E H k;have av:Hid (((wr.alloc (.cells #[h,I,P,V,O,d,l,(R,F,W)] 123)).alloc (.cells #[.int .i64 (k+1)] 3)).heap[wr.heap.size+1]?=some (.cells #[.int .i64 (k+1)] 3)):=(by have:=zT (wr.alloc (.cells #[h,I,P,V,O,d,l,(R,F,W)] 123)) (.cells #[.int .i64 ((k:Int)+1)] 3);rw[show (wr.alloc (.cells #[h,I,P,V,O,d,l,(R,F,W)] 123)).heap.size=wr.heap.size+1 by simp]at this;exact this);have C:=za (Gn (ph,nh,ch) H ((k:Int)+1) _ (wh.below H2.o b.o) ad);obtain⟨cb,M⟩:=zD (H.contains ((k:Int)+1));rw[M.o]at C;have z:Hid (qw E H (k+1)=qw E H k++(if (!(h==0)&&(d==0)&&!cb)=true then [(k:Int)+1] else [])):=(by show _=_;rw[D.o];unfold m8;rw[M.o]);clear hc d0 d1 d2 d3 d4 d5 d6 d7 A X D;have B:Hid ((!(h==0)&&(d==0)&&!cb)=false->(wr.alloc (.cells #[h,I,P,V,O,d,l,(R,F,W)] 123)).ownsRow w 3 1 u5 (qw E H (k+1)).length (ints (qw E H (k+1)))):=fun hf=>(by rw[z.o,hf,zb (by simp),yX];exact Y.o _);by_cases u:h=0
   .have K:(h==0)=true:=(by simpa using u);have b2:(h != 0)=false:=(by simp[bne,K]);have a:=za (B.out (by rw[K];rfl));clear u;go_wp2;go_roundw;case rel=>exact⟨k+1,by omega,by go_num,a,b.o⟩
    case measure=>simp[intOf];omega
   .have K:(h==0)=false:=(by simpa using u);have b2:(h != 0)=true:=(by simp[bne,K]);clear u;by_cases m:d=0
    .have G:(d==0)=true:=(by simpa using m);have b4:(d != 0)=false:=(by simp[bne,G]);clear m;cases cb with
     | true=>
      have a:=za (B.out (by simp));go_wp2_with fail
      refine C.o.mono ?_;rintro e w' ⟨rfl,rfl⟩;go_wp2;go_roundw;case rel=>exact⟨k+1,by omega,by go_num,a,b.o⟩
      case measure=>simp[intOf];omega
     | false=>
      have J:Hid (qw E H (k+1)=qw E H k++[(k:Int)+1]):=(by show _=_;rw[z.o,K,G];simp);go_wp2_with fail
      refine C.o.mono ?_;rintro e w' ⟨rfl,rfl⟩;go_wp2_with (at_builtin;refine yI _ rfl _ _ 33 rfl w.heap.size 3 i0 (.int .i64 0) 1 8 lB az.o al.o ag.o ap.o rfl (by decide) _ _ _ rfl ((Y.o _).alloc _) ⟨_,0,none⟩ 1 1 [.int .i64 ((k:Int)+1)] rfl rfl (xE (cs:=#[.int .i64 ((k:Int)+1)]) (t:=3) (fr:=(0,0)) av.o) (by simp[Value.oneCell']) (by unfold maxLen;omega) (by omega) (by simp;omega) ?_;intro v' w1 y j _)
      have a:Hid (w1.ownsRow w 3 1 v' (qw E H (k+1)).length (ints (qw E H (k+1)))):=(by show World.ownsRow _ _ _ _ _ _ _;rw[J.o,zm,Ja];exact y);have au:=xB (b.o.alloc b.o.size _) j (by simp;omega) ak.o;clear y j;go_wp2;go_roundw;case rel=>exact⟨k+1,by omega,by go_num,a,au⟩
      case measure=>simp[intOf];omega
    .have G:(d==0)=false:=(by simpa using m);have b4:(d != 0)=true:=(by simp[bne,G]);have a:=za (B.out (by rw[G];simp));clear m;go_wp2;go_roundw;case rel=>exact⟨k+1,by omega,by go_num,a,b.o⟩
     case measure=>simp[intOf];omega
  .have Z:k=N:=(by omega);subst Z;go_wp2;go_ret;exact⟨_,rfl,HO.o,f⟩
