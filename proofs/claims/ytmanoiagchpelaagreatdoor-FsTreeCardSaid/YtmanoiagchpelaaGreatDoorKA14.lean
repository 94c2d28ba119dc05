import Derived.Test.YtmanoiagchpelaaGreatDoorKA4
import Derived.Test.YtmanoiagchpelaaGreatDoorKA13
import Derived.Maps.Views
import Derived.Carry
import Derived.Laws.AppendOwnNone
set_option maxHeartbeats 0
set_option linter.all false
set_option maxRecDepth 100000
namespace Go.Proofs.YtmanoiagchpelaaGreatDoor
open Go.Proofs.Tryz Go.RowKit
variable {D:List Int} {E:List Rq} {F:Nat->Prop} {O:List Rk} {R:List Wr} {a w w':World} {b base c cnt kd m n r size:Nat} {e:TypeId} {left:Lit->Bool} {st:Dk} {v:Value} {xs:List Value}
def hB (D:List Int) (j:Nat):Int:=D.getD j 0
def mJ (N:List Int):Int:=rdB (hB (sec N 5) 1) (hB (sec N 5) 2) (hB (sec N 5) 3) (hB (sec N 5) 4)
def og (N:List Int):Nat:=(hB (sec N 5) 5).toNat
def lq (N:List Int) (n:Nat):List Wr:=(List.range n).map fun i=>((hB (sec N 5) (6+i)).toNat,sec N (6+i))
def na (N:List Int):Bool:=(hB (sec N 5) 0==74)&&decide (1<=og N)&&decide (og N<=30)
def qV (N:List Int):Bool:=(hB (sec N (6+og N)) 0==67)&&(rdB (hB (sec N (6+og N)) 1) (hB (sec N (6+og N)) 2) (hB (sec N (6+og N)) 3) (hB (sec N (6+og N)) 4)==mJ N) &&
 (rdB (hB (sec N (6+og N)) 5) (hB (sec N (6+og N)) 6) (hB (sec N (6+og N)) 7) (hB (sec N (6+og N)) 8)==sumW (lq N (og N)))
theorem NC (N) (n):lq N (n+1)=lq N n++[((hB (sec N 5) (6+n)).toNat,sec N (6+n))]:=by unfold lq;rw[vI,yy];rfl
theorem KB (N) (n):(lq N n).length=n:=by unfold lq;simp
def un (D:List Int):Prop:=∀x∈D,0<=x/\x<=255
theorem un.get (h:un D) (j):0<=hB D j/\hB D j<=255:=by
 unfold hB;rw[zi];cases a:D[j]? with
 | none=>simp
 | some x=>exact h x (xU a)
theorem un.sec (h:un D) (n):un (sec D n):=fun x a=>h x (wd (yY a))
theorem Jh (h:lF D w v w') (l:D.length=64):∃g cap cur,v=.slice (some ⟨g,0,none⟩) 64 cap/\64<=cap/\w.heap.size<=g/\g<w'.heap.size/\(∀j,j<64->w'.cell? ⟨g,j,none⟩=some (.int .u8 (hB D j)))/\w'.heap[g]?=some (.cells cur 5)/\cur.toList.take 64=u8s D/\Below w w w':=by obtain⟨g,cap,cur,d,⟨i,e⟩,b,a,k⟩:=h;rw[l]at d e a;refine⟨g,cap,cur,d,e,i,xR b,fun j f=>?_,b,a,k⟩;rw[zC b];have c:=qg D j (by omega);rw[<-a,zI,ze f]at c;unfold hB;rw[zi,zh (by omega)];simpa using c
theorem jwInfo: (prog.info? 202).map (fun i=>(i.zero,i.size,i.bytes))=some (some (.agg #[(),.slice none 0 0]),2,32):=by kernel_rfl
theorem jwT: prog.underlying 146=some (.slice 202):=by kernel_rfl
theorem PJ {d:Value} (g:64<=kd) (i:kd<=256) (h:uS w d st kd F):Calls prog 183 #[d,(5:Int),(32:Int)] w fun e w'=>e=.returned ()/\w=w':=by
 have b:=za (mH h);obtain⟨a,rfl⟩:=h.ptr;clear h;have c:=zW (kd-32) (by omega);have f:¬((kd:Int)-32<5):=by omega
 go_enter func183,ntmps183
 go_wp2_with fail
 refine b.o.mono ?_;rintro e w' ⟨rfl,rfl⟩;go_wp2;go_ret;exact⟨rfl,rfl⟩
def gH (N:List Int) (w:World) (e:Ending) (w':World):Prop:=
 (na N=false/\e=.returned (.tuple #[.slice none 0 0,.int .u32 0,.bool false,()])/\Below w w w') \/
 (na N=true/\qV N=false/\e=.returned (.tuple #[.slice none 0 0,.int .u32 (mJ N),.bool false,()])/\Below w w w') \/
 (na N=true/\qV N=true/\∃v E,e=.returned (.tuple #[v,.int .u32 (mJ N),.bool true,()])/\E.map jab=lq N (og N)/\pX w' w w v E/\Below w w w')
theorem Rm {a:Addr} (aa:64<=kd) (ap:kd<=256) (h:uS w (.pointer (some a)) st kd F) (hN:un st.N):
 Calls prog 144 #[.pointer (some a),(5:Int),(32:Int)] w (gH st.N w):=by
 unfold gH;have HD:=za h;have aJ:=h.lens.2;have ae:∀n,n<kd->(sec st.N n).length=64:=fun n hn=>mI aJ hn;have s:=za ae;have af:=za (fun n j=>(hN.sec n).get j);have aT:=za (PJ aa ap h);have aF:=za (Zb h 5 (by omega));clear ae aJ h;go_enter func144,ntmps144;go_wp2_with fail
 refine aT.o.mono ?_;rintro e w' ⟨rfl,rfl⟩;go_wp2_with fail
 refine aF.o.mono ?_;rintro e w1 ⟨v1,rfl,aA⟩;obtain⟨g,V,_,rfl,bD,bR,aH,hc,_,_,aZ⟩:=Jh aA (s.o 5 (by omega));have HC:=za hc;have T:=za aZ;obtain⟨x0,aV⟩:=zD (hB (sec st.N 5) 0);obtain⟨n,Hn⟩:=zD (og st.N);have aK:hB (sec st.N 5) 5=n:=by have:=af.o 5 5;rw[<-Hn.o];unfold og;omega
 have c0:=hc 0 (by omega);have c5:=hc 5 (by omega);rw[aV.o]at c0;rw[aK]at c5;have bn:(n:Int)<=255:=by have:=af.o 5 5;omega
 have M:Hid (na st.N=((x0==74)&&decide (1<=n)&&decide (n<=30))):=by show _=_;unfold na;rw[aV.o,Hn.o]
 clear hc aA aZ aK aF aT;by_cases O:x0=74;case neg=>
  have B:(x0==74)=false:=by simpa using O
  have b2:(x0 != 74)=true:=by simp[bne,B]
  have L:Hid (na st.N=false):=by show _=_;rw[M.o,B];rfl
  clear O;go_wp2;exact yV (v:=.tuple #[.slice none 0 0,.int .u32 0,.bool false,()]) (by simp[results,uu,go_sem]) rfl (zr ⟨L.o,rfl,T.o⟩)
 have B:(x0==74)=true:=by simpa using O
 have b2:(x0 != 74)=false:=by simp[bne,B]
 clear O;by_cases bg:1<=n;case neg=>
  have d1:decide (n<1)=true:=by rw[yJ];omega
  have bt:n=0:=by omega
  subst bt;have L:Hid (na st.N=false):=by show _=_;rw[M.o,B];rfl
  go_wp2;exact yV (v:=.tuple #[.slice none 0 0,.int .u32 0,.bool false,()]) (by simp[results,uu,go_sem]) rfl (zr ⟨L.o,rfl,T.o⟩)
 by_cases aU:n<=30;case neg=>
  have d1:decide ((n:Int)<1)=false:=by rw[zM];omega
  have d2:decide (30<(n:Int))=true:=by rw[yJ];omega
  have d3:decide (n<1)=false:=by rw[zM];omega
  have d4:decide (30<n)=true:=by rw[yJ];omega
  have L:Hid (na st.N=false):=by show _=_;rw[M.o,zz aU];simp
  go_wp2;exact yV (v:=.tuple #[.slice none 0 0,.int .u32 0,.bool false,()]) (by simp[results,uu,go_sem]) rfl (zr ⟨L.o,rfl,T.o⟩)
 have L:Hid (na st.N=true):=by show _=_;rw[M.o,B,ya bg,ya aU];rfl
 have d1:decide ((n:Int)<1)=false:=by rw[zM];omega
 have d2:decide (30<(n:Int))=false:=by rw[zM];omega
 have d3:decide (n<1)=false:=by rw[zM];omega
 have d4:decide (30<n)=false:=by rw[zM];omega
 have bs:¬V=1:=by omega
 have bb:¬1=V:=by omega
 have b9:1<=V:=by omega
 obtain⟨sq,z⟩:=zD (mJ st.N);have aG:=za (gY (hB (sec st.N 5) 1) (hB (sec st.N 5) 2) (hB (sec st.N 5) 3) (hB (sec st.N 5) 4) g 1 63 (V-1) (by omega) w1 (HC.o 1 (by omega)) (HC.o 2 (by omega)) (HC.o 3 (by omega)) (HC.o 4 (by omega)));rw[show rdB (hB (sec st.N 5) 1) (hB (sec st.N 5) 2) (hB (sec st.N 5) 3) (hB (sec st.N 5) 4)=sq from z.o]at aG;go_wp2_with fail
 refine aG.o.mono ?_;rintro e w2 ⟨rfl,Q⟩;have C:=za (zf T.o Q);have bq:Hid (∀j,j<64->w2.cell? ⟨g,j,none⟩=some (.int .u8 (hB (sec st.N 5) j))):=fun j hj=>(Q.cell (p:=⟨g,j,none⟩) aH).trans (HC.o j hj);have b0:=zo aH Q.size;obtain⟨i0,aS,aC,aW,aN⟩:=xy jwInfo;have b8:=za aS;have bl:=za aC;have bi:=za aW;have bv:=za aN;clear Q c0 c5 d1 d2 d3 d4 HC aS aC aW aN B b2;go_wp2;go_loopw [15,56] (fun l i wr=>∃(k:Nat) (E:List Jw),k<=n/\i=.int .i64 k/\Hid (E.map jab=lq st.N k)/\Hid (pX wr w2 w l E)/\Hid (Below w2 w2 wr)) (fun _ i _=>n-(intOf i).toNat);case atStart=>exact⟨0,[],ye _,rfl,rfl,⟨xd _ _ _ _,fun x Y=>by simp at Y⟩,zB⟩
 case round=>
  obtain⟨k,E,hk,rfl,H,HJ,HB⟩:=hrel;by_cases bS:k<n
  .have J:=za (HD.o.below (zf C.o HB.o));have aq:=za (Zb J.o (6+k) (by omega));rw[show ((6+k:Nat):Int)=6+(k:Int) by omega]at aq;have bN:k<(n:Int):=(by omega);go_wp2_with fail
   refine aq.o.mono ?_;rintro e w3 ⟨v3,rfl,I⟩;obtain⟨A,b,aL,rfl,ai,ab,bJ,_,aP,aM,m⟩:=Jh I (s.o (6+k) (by omega));have al:=za (HJ.o.below m);have D:=za (HB.o.trans (m.mono HB.o.size));have aB:=af.o 5 (6+k);obtain⟨y,Hy⟩:∃y:Nat,Hid (hB (sec st.N 5) (6+k)=(y:Int)):=⟨(hB (sec st.N 5) (6+k)).toNat,by show _=_;omega⟩;have br:(y:Int)<=255:=(by rw[<-Hy.o];exact aB.2);have c6:w3.cell? (g,6+k)=some (.int .u8 y):=(by rw[<-Hy.o];exact (D.o.cell (p:=⟨g,6+k,none⟩) b0).trans (bq.o (6+k) (by omega)));have bk:Hid (ni (w3.alloc (.cells #[y,.slice (some ⟨A,0,none⟩) 64 b] 202)) w ⟨y,.slice (some ⟨A,0,none⟩) 64 b,sec st.N (6+k)⟩):=
    ⟨by show y<256;omega,s.o (6+k) (by omega),A,b,aL,rfl,⟨zt C.o.size (zt HB.o.size ab),ai⟩,tA aP _,aM⟩
   have aO:Hid ((E++[(⟨y,.slice (some ⟨A,0,none⟩) 64 b,sec st.N (6+k)⟩:Jw)]).map jab=lq st.N (k+1)):=(by show _=_;rw[yy,H.o,NC,Hy.o];rfl);have ak:E.length=k:=by
    have:=zV List.length H.o
    rwa [yp,KB]at this
   have aI:=za ak;have bh:=D.o.size;have ce:k<30:=(by omega);have e9:6+k<64:=(by omega);have bw:Hid ((w3.alloc (.cells #[y,.slice (some ⟨A,0,none⟩) 64 b] 202)).heap[w3.heap.size]?=some (.cells #[y,.slice (some ⟨A,0,none⟩) 64 b] 202)):=zH;have ag:=za (al.o.below (zB.alloc zL (.cells #[y,.slice (some ⟨A,0,none⟩) 64 b] 202)));clear aB m I aP aM ab ak J aq;go_wp2_with (at_builtin;refine yI _ rfl _ _ 146 rfl w2.heap.size 202 i0 (.agg #[(),.slice none 0 0]) 2 32 jwT b8.o bl.o bi.o bv.o rfl (by decide) _ _ _ rfl ag.o.1 ⟨_,0,none⟩ 1 1 [.int .i64 (y:Int),.slice (some ⟨A,0,none⟩) 64 b] rfl rfl (xE (cs:=#[.int .i64 (y:Int),.slice (some ⟨A,0,none⟩) 64 b]) (t:=202) (fr:=(0,0)) bw.o) (by simp[Value.oneCell']) (by rw[aI.o];unfold maxLen;omega) (by rw[aI.o];omega) (by simp;omega) ?_;intro v5 w5 ad r _)
   have X:Hid (pX w5 w2 w v5 (E++[⟨y,.slice (some ⟨A,0,none⟩) 64 b,sec st.N (6+k)⟩])):=by
    have G:∀(i:Nat) (c),(w3.alloc (.cells #[y,.slice (some ⟨A,0,none⟩) 64 b] 202)).heap[i]?=some (.cells c 5)->w5.heap[i]?=(w3.alloc (.cells #[y,.slice (some ⟨A,0,none⟩) 64 b] 202)).heap[i]? :=fun i c hi=>r.block i (xR hi) (fun e=>qb ag.o.1 hi (by decide) e.symm);refine⟨by rw[zm,Gb];exact ad,fun x Y=>?_⟩;rcases yo.1 Y with Y|Y
    .exact (ag.o.2 x Y).keep fun i c _ hi=>G i c hi
    .rw[xt]at Y;subst Y;exact bk.o.keep fun i c _ hi=>G i c hi
   have am:=za (xB (D.o.alloc bh _) r (by simp;omega) (fun q hq=>(HJ.o.1.lt q hq).1));clear ad r;go_wp2;go_roundw;case rel=>exact⟨k+1,E++[(⟨y,.slice (some ⟨A,0,none⟩) 64 b,sec st.N (6+k)⟩:Jw)],by omega,by go_num,aO,X,am⟩
   case measure=>simp[intOf];omega
  .obtain rfl:k=n:=(by omega);have J:=za (HD.o.below (zf C.o HB.o));have ah:=za (Zb J.o (6+k) (by omega));rw[show ((6+k:Nat):Int)=6+(k:Int) by omega]at ah;have aX:=C.o.trans (HB.o.mono C.o.size);have b7:=za aX;clear aX J;go_wp2_with fail
   refine ah.o.mono ?_;rintro e w3 ⟨v3,rfl,I⟩;obtain⟨gt,d,_,rfl,bp,bL,a9,an,_,_,m⟩:=Jh I (s.o (6+k) (by omega));have D:=za (zf b7.o m);have al:=za (HJ.o.below m);have K:=za an;have aE:=an 0 (by omega);obtain⟨t0,a5⟩:=zD (hB (sec st.N (6+k)) 0);rw[a5.o]at aE;obtain⟨ts,a2⟩:=zD (rdB (hB (sec st.N (6+k)) 1) (hB (sec st.N (6+k)) 2) (hB (sec st.N (6+k)) 3) (hB (sec st.N (6+k)) 4));obtain⟨tz,aR⟩:=zD (rdB (hB (sec st.N (6+k)) 5) (hB (sec st.N (6+k)) 6) (hB (sec st.N (6+k)) 7) (hB (sec st.N (6+k)) 8));obtain⟨sw,a4⟩:=zD (sumW (lq st.N k));have R:Hid (qV st.N=((t0==67)&&(ts==sq)&&(tz==sw))):=(by show _=_;unfold qV;rw[Hn.o,a5.o,a2.o,aR.o,a4.o,z.o]);have ak:E.length=k:=by
    have:=zV List.length H.o
    rwa [yp,KB]at this
   clear an I m ah;by_cases P:t0=67;case neg=>
    have B:(t0==67)=false:=(by simpa using P);have b2:(t0 != 67)=true:=(by simp[bne,B]);have f:Hid (qV st.N=false):=(by show _=_;rw[R.o,B];rfl);clear P;go_wp2;exact yV (v:=.tuple #[.slice none 0 0,.int .u32 (mJ st.N),.bool false,()]) (by simp[results,uu,go_sem,z.o]) rfl (zu (zr ⟨L.o,f.o,rfl,D.o⟩))
   have B:(t0==67)=true:=(by simpa using P);have b2:(t0 != 67)=false:=(by simp[bne,B]);have bZ:¬d=1:=(by omega);have ca:1<=d:=(by omega);have bO:¬d=5:=(by omega);have bP:5<=d:=(by omega);have Z:=za (gY (hB (sec st.N (6+k)) 1) (hB (sec st.N (6+k)) 2) (hB (sec st.N (6+k)) 3) (hB (sec st.N (6+k)) 4) gt 1 63 (d-1) (by omega) w3 (K.o 1 (by omega)) (K.o 2 (by omega)) (K.o 3 (by omega)) (K.o 4 (by omega)));rw[a2.o]at Z;clear P;go_wp2_with fail
   refine Z.o.mono ?_;rintro e w4 ⟨rfl,W⟩;have aQ:=za (zf D.o W);have bA:=za (al.o.below W);have u:Hid (∀j,j<64->w4.cell? ⟨gt,j,none⟩=some (.int .u8 (hB (sec st.N (6+k)) j))):=fun j hj=>(W.cell (p:=⟨gt,j,none⟩) a9).trans (K.o j hj);clear W aE;by_cases U:ts=sq;case neg=>
    have b3:(ts==sq)=false:=(by simpa using U);have b4:(ts != sq)=true:=(by simp[bne,b3]);have f:Hid (qV st.N=false):=(by show _=_;rw[R.o,b3];simp);clear U;go_wp2;exact yV (v:=.tuple #[.slice none 0 0,.int .u32 (mJ st.N),.bool false,()]) (by simp[results,uu,go_sem,z.o]) rfl (zu (zr ⟨L.o,f.o,rfl,aQ.o⟩))
   have b3:(ts==sq)=true:=(by simpa using U);have b4:(ts != sq)=false:=(by simp[bne,b3]);have ac:=za (gY (hB (sec st.N (6+k)) 5) (hB (sec st.N (6+k)) 6) (hB (sec st.N (6+k)) 7) (hB (sec st.N (6+k)) 8) gt 5 59 (d-5) (by omega) w4 (u.o 5 (by omega)) (u.o 6 (by omega)) (u.o 7 (by omega)) (u.o 8 (by omega)));rw[aR.o]at ac;clear U;go_wp2_with fail
   refine ac.o.mono ?_;rintro e w5 ⟨rfl,ao⟩;have am:=za (zf aQ.o ao);have X:=za (bA.o.below ao);have aY:=za (Xr u15 E w5 X.o.at (by omega));rw[H.o,a4.o]at aY;clear ao;go_wp2_with fail
   refine aY.o.mono ?_;rintro e w6 ⟨rfl,aj⟩;have a7:=za (zf am.o aj);have bu:=za (X.o.below aj);clear aj;by_cases S:tz=sw;case neg=>
    have b5:(tz==sw)=false:=(by simpa using S);have b6:(tz != sw)=true:=(by simp[bne,b5]);have f:Hid (qV st.N=false):=(by show _=_;rw[R.o,b5];simp);clear S;go_wp2;exact yV (v:=.tuple #[.slice none 0 0,.int .u32 (mJ st.N),.bool false,()]) (by simp[results,uu,go_sem,z.o]) rfl (zu (zr ⟨L.o,f.o,rfl,a7.o⟩))
   have b5:(tz==sw)=true:=(by simpa using S);have b6:(tz != sw)=false:=(by simp[bne,b5]);have f:Hid (qV st.N=true):=(by show _=_;rw[R.o,B,b3,b5];rfl);clear S;go_wp2;refine yV (v:=.tuple #[u15,.int .u32 (mJ st.N),.bool true,()]) (by simp[results,uu,go_sem,z.o]) rfl (zu (zu ⟨L.o,f.o,u15,E,rfl,by rw[Hn.o];exact H.o,?_,a7.o⟩));obtain⟨o1,o2⟩:=bu.o;refine⟨?_,o2⟩;obtain⟨e1,h|⟨g',aD,a6,bz,bm,r'⟩⟩:=o1
   .exact⟨e1,zr h⟩
   .exact⟨e1,zu ⟨g',aD,a6,bz,zt C.o.size bm,r'⟩⟩
open Go.Maps
def RV (v:Value):Option (DataW Value×List MemPlace):=some (.held v,[])
def keyL (n:Nat):Lit:=.int .i64 n
def mapD (E:List Rq):DataW Value:=E.foldl (fun D x=>D.put (keyL x.n) (.held x.v)) (.map [])
def wrs (E:List Rq):List Wr:=E.map fun x=>(x.n,x.D)
theorem Z4 (E) (x):mapD (E++[x])=(mapD E).put (keyL x.n) (.held x.v):=by unfold mapD;rw[xG];rfl
theorem gK (E) (x):wrs (E++[x])=wrs E++[(x.n,x.D)]:=by simp[wrs]
theorem Uc (n):WideAt.IsKeyLit (keyL n):=by unfold keyL;trivial
theorem fA {a:Nat} (h:keyL a=keyL b):a=b:=by unfold keyL at h;injection h with _ h;omega
structure kN (E:List Rq):Prop where
 im:IsMap (mapD E)
 back:∀kl,has (mapD E) kl=true->∃x∈E,kl=keyL x.n/\(∀z,(mapD E).atKey kl z=.held x.v)/\sC (wrs E) x.n=some x.D
 there:∀n,has (mapD E) (keyL n)=(sC (wrs E) n).isSome
theorem Ma (h:kN E) (x):kN (E++[x]):=by
 refine⟨?_,?_,?_⟩
 .rw[Z4];exact h.im.put _ _
 .intro d a;rw[Z4]at a;by_cases e:d=keyL x.n
  .subst e;refine⟨x,by simp,rfl,fun z=>?_,?_⟩
   .rw[Z4];exact atKey_put_same h.im (Uc _) _ _
   .rw[gK,UM,ze rfl]
  .rw[has_put_other e]at a;obtain⟨y,f,c,g,i⟩:=h.back d a;refine⟨y,by simp[f],c,fun z=>?_,?_⟩
   .rw[Z4,atKey_put_other e];exact g z
   .rw[gK,UM,zb (fun b=>e (by rw[c,<-b]))];exact i
 .intro n;rw[Z4,gK,UM];by_cases e:x.n=n
  .subst e;rw[has_put_same h.im (Uc _),ze rfl];rfl
  .rw[has_put_other (fun b=>e (fA b).symm),zb e];exact h.there n
theorem Ob (E):kN E:=by
 have a:∀k,k<=E.length->kN (E.take k):=by
  intro k
  induction k with
  | zero=>intro _;exact⟨isMap_empty,fun d b=>by simp[mapD,has]at b,fun n=>rfl⟩
  | succ k c=>
   intro b;rw[<-zR (show k<E.length by omega)];exact Ma (c (by omega)) _
 have:=a E.length zL
 rwa [xJ]at this
def New64c (D:List Int) (w:World) (v:Value) (w':World):Prop:=
 ∃g cap cur,v=.slice (some ⟨g,0,none⟩) 64 cap/\(w.heap.size<=g/\64<=cap)/\w'.heap[g]?=some (.cells cur 5)/\cur.toList.take 64=u8s D/\Below w w w'
theorem QU (v) (D) (w) (h:vQ w v D) (l:D.length=64):Calls prog 134 #[v] w fun e w'=>∃v',e=.returned v'/\New64c D w v' w':=
 (Zt v D w h (by omega) (by omega)).mono fun e w' ⟨v',d,g,b,a,f,c,i,k,j⟩=>⟨v',d,g,b,a,by rw[f,l],⟨c.1,by rw[<-l];exact c.2⟩,i,by rw[<-l];exact k,j⟩
structure mm (R:List Wr) (base:Nat) (w:World) (left:Lit->Bool) (O:List Rk):Prop where
 el:∀x∈O,x.1<256/\∃D cur,sC R x.1=some D/\D.length=64/\(base<=x.2.1/\64<=x.2.2)/\w.heap[x.2.1]?=some (.cells cur 5)/\cur.toList.take 64=u8s D
 nd:(O.map fun x=>x.1).Nodup
 all:∀n D,sC R n=some D->left (keyL n)=true\/n∈O.map fun x=>x.1
 out:∀x∈O,left (keyL x.1)=false
theorem mm.keep (h:mm R base w left O) (l:∀i c,base<=i->w.heap[i]?=some (.cells c 5)->w'.heap[i]?=w.heap[i]?):mm R base w' left O:=
 ⟨fun x k=>by obtain⟨g,D,a,f,j,b,d,e⟩:=h.el x k;exact⟨g,D,a,f,j,b,(l _ _ b.1 d).trans d,e⟩,h.nd,h.all,h.out⟩
theorem mm.start (R) (base) (w) (left) (h:∀n D,sC R n=some D->left (keyL n)=true):mm R base w left []:=
 ⟨fun x a=>by simp at a,by simp,fun n D b=>zr (h n D b),fun x a=>by simp at a⟩
theorem mm.step (h:mm R base w left O) (n g c) (D) (cur) (q:left (keyL n)=true) (r:n<256) (s:sC R n=some D) (p:D.length=64) (t:base<=g/\64<=c)
 (u:w.heap[g]?=some (.cells cur 5)) (v:cur.toList.take 64=u8s D):mm R base w (fun z=>left z&&!z.sameKey (keyL n)) (O++[(n,g,c)]):=by
 have f:=WideAt.sameKey_self (Uc n);refine⟨fun x d=>?_,?_,fun m E j=>?_,fun x d=>?_⟩
 .rcases yo.1 d with d|d
  .exact h.el x d
  .simp at d;subst d;exact⟨r,D,cur,s,p,t,u,v⟩
 .rw[yy,vf];refine⟨h.nd,by simp,fun a k b l e=>?_⟩;simp at l;obtain⟨x,d,rfl⟩:=zU.1 k;have:=h.out x d;rw[show x.1=n by omega,q]at this;cases this
 .rcases h.all m E j with i|i
  .by_cases e:m=n
   .subst e;exact zu (by simp)
   .refine zr ?_;have  :=sameKey_ne fun o=>e (fA o);simp[i,this]
  .exact zu (by rw[yy,yo];exact zr i)
 .rcases yo.1 d with d|d
  .simp[h.out x d]
  .simp at d;subst d;simp[f]
theorem kE: prog.underlying 200=some (.slice 204):=by kernel_rfl
theorem jk: (prog.info? 204).map (fun i=>(i.zero,i.size,i.bytes))=some (some (.agg #[(),.slice none 0 0,.bool false]),3,40):=by kernel_rfl
theorem YO: prog.underlying 109=some (.map 3 56):=by kernel_rfl
theorem Ze: Keyed prog 3:=int_keyed (q:=.i64) (by kernel_rfl)
theorem iD (n:Nat) (h:n<256):(Lit.int .i64 n).wf=true:=by simp[Lit.wf,IntKind.min,IntKind.max,IntKind.signed,IntKind.bits];omega
def Kr : Prop:=∀(gh h base : Nat) (v : Value) (O) (W : World),h<256->W.ownsRow base 204 3 v O.length (O.flatMap encK)->W.heap[gh]?=some (.cells #[h] 3)->O.length<=1000000 ->
 Calls prog 245 #[v,.func (.func 246) #[] #[(gh,())]] W fun e w'=>e=.returned (.tuple #[]) /\
  ∃O':List Rk,O'.Perm O/\O'.Pairwise (fun a b=>farN h (a.1%256)<=farN h (b.1%256))/\w'.ownsRow base 204 3 v O'.length (O'.flatMap encK)/\W.grownBy w' v.ownBlock
def toRq (R:List Wr) (x:Rk):Rq:=⟨x.1,.slice (some ⟨x.2.1,0,none⟩) 64 x.2.2,(sC R x.1).getD [],false⟩
theorem JG (h:∀x∈O,x.1<256):tb (O.map (toRq R))=O.flatMap encK:=by
 induction O with
 | nil=>rfl
 | cons x O a=>
  rw[yF,Ix,xo,a fun y b=>h y (by simp[b])]
  congr 1
  show [_,_,_]=[_,_,_];rw[vz (h x (by simp))];rfl
theorem Pi:(O.map (toRq R)).map rab=emit (O.map fun x=>(x.1,(sC R x.1).getD [])):=by unfold emit;rw[vr,vr];rfl
theorem Ry {h:Nat} {O':List Rk} (u:h<256) (_hR:∀n D,sC R n=some D->n<256) (s:mm R base w left O) (v:∀kl,left kl=false) (t:O'.Perm O) (z:O'.Pairwise fun a b=>farN h (a.1%256)<=farN h (b.1%256)):
 (O'.map fun x=>(x.1,(sC R x.1).getD []))=tt R h:=by
 have f:∀x∈O',x.1<256:=fun x o=>(s.el x (t.mem_iff.1 o)).1;have k:=(t.map fun x=>x.1).nodup_iff.2 s.nd;refine PQ u ?_ fun x=>?_
 .rw[xW];rw[List.Nodup,xW]at k;have e:=List.Pairwise.and z k;refine e.imp_of_mem ?_;intro a b r p g;have j:=f a r;have c:=f b p;have d:=g.1;rw[vz j,vz c]at d;show farN h a.1<farN h b.1;rcases Nat.lt_or_eq_of_le d with i|i
  .exact i
  .exact zY (Sq u j c i) g.2
 .constructor
  .intro o;obtain⟨y,m,rfl⟩:=zU.1 o;obtain⟨j,D,q,c,_⟩:=s.el y (t.mem_iff.1 m);exact⟨j,by rw[c];rfl⟩
  .rintro ⟨j,c⟩;rcases s.all x.1 x.2 c with d|d
   .rw[v]at d;cases d
   .have i:=(t.map fun x=>x.1).mem_iff.2 d;obtain⟨y,m,l⟩:=zU.1 i;refine zU.2 ⟨y,m,?_⟩;rw[l,c];rfl
theorem Sd (h:∀x∈E,x.n<256):∀n D,sC (wrs E) n=some D->n<256:=by
 intro n D b;obtain⟨x,a,e⟩:=zU.1 (VM _ n D b);have:=h x a;have c:x.n=n:=by injection e
 omega
theorem N0 {es:Array MapEntry} (h:w.ownsRow base e size v n xs) (j:w.heap[b]?=some (.map es c)):v.ownBlock≠some b:=by
 rcases h.2 with⟨rfl,_⟩|⟨i,g,d,rfl,_,a,_⟩
 .simp[Value.ownBlock]
 .intro f;have:i=b:=by simpa[Value.ownBlock]using f
  subst this;rw[j]at a;cases a
theorem M7 {m:Option Nat} {s:Nat} {sn:Array Nat} (h:w.ownsRow base e size v n xs) (j:w.heap[b]?=some (.mapIter m s sn c)):v.ownBlock≠some b:=by
 rcases h.2 with⟨rfl,_⟩|⟨i,g,d,rfl,_,a,_⟩
 .simp[Value.ownBlock]
 .intro f;have:i=b:=by simpa[Value.ownBlock]using f
  subst this;rw[j]at a;cases a
theorem Ww {D:DataW Value} (h:w.ownsRow base e size v n xs) (j:w.ranges prog 3 RV b r m D left cnt):some b≠v.ownBlock/\some r≠v.ownBlock:=by obtain⟨g,c,a,d,i,f,_,_,_,j,_⟩:=j;exact⟨fun e=>N0 h f e.symm,fun e=>M7 h j e.symm⟩
theorem LV {D:DataW Value} (k:w.ranges prog 3 RV b r m D left cnt):∃o,w.heap[r]?=some o/\∀c t f,o≠.cells c t f:=by obtain⟨g,d,a,e,j,i,_,_,_,k,_⟩:=k;exact⟨_,k,fun c t f h=>by cases h⟩
theorem WC (h:mm R base w left O):O.length<=256:=by
 have:=Ga (B:=List.range 256) h.nd fun n b=>by obtain⟨x,a,rfl⟩:=zU.1 b;exact yH.2 (h.el x a).1
 simpa using this
theorem Lq (O) (x):(O++[x]).flatMap encK=O.flatMap encK++encK x:=by simp
theorem Sf: ∀(key) (kl),keyOf prog 3 key=some kl->∃x,key=.int .i64 x:=fun key kl h=>by obtain⟨x,a,_⟩:=su (q:=.i64) (by kernel_rfl) h;exact⟨x,a⟩
theorem Gh {b:World} (h:Below a a b):a.grownBy b none:=⟨h.os,h.tape,h.output,h.size,fun i c _=>h.block i c⟩
theorem UF {B:Nat} (h:Below B a w) (n):Below B a (w.drewN n):=⟨h.os,h.tape,h.output,h.size,h.block⟩
def Vq (R:List Wr) (h:Nat) (w:World) (e:Ending) (w':World):Prop:=
 ∃v',e=.returned (.tuple #[v',.int .i64 (pR R h)])/\pz w' w v' (emit (tt R h))/\Below w w w'
theorem XD (
 aj:Kr) (v) (E) (h:Nat) (hh:h<256) (w) (hv:wh w v 3 E.length (tb E)) (hE:∀x∈E,x.b=false/\x.n<256/\vQ w x.v x.D/\x.D.length=64) (hl:E.length<=1000):
 Calls prog 216 #[v,h] w (Vq (wrs E) h w):=by
 have aP:=za aj;clear aj;obtain⟨N,HN⟩:=zD E.length;obtain⟨p,cp,rfl,HP⟩:∃p cp,v=.slice p N cp/\Hid (0<N->∃g o,p=some ⟨g,o,none⟩/\∀(j:Nat) (x:Value),(tb E)[j]?=some x->w.cell? ⟨g,o+j,none⟩=some x):=by
  rw[<-HN.o];obtain⟨_,⟨h0,a0,c0,rfl⟩|⟨g,o,ae,rfl,hc⟩⟩:=hv
  .exact⟨a0,c0,by rw[h0],fun h=>by omega⟩
  .exact⟨_,ae,rfl,fun _=>⟨g,o,rfl,hc⟩⟩
 rw[HN.o]at hl;have HE:=za hE;clear hv hE;obtain⟨i0,br,bc,bw,aH⟩:=xy jk;have HI:=za br;have ci:=za bc;have cj:=za bw;have bL:=za aH;clear br bc bw aH;have bE:=za (zT w (.cells #[h] 3));have bC:Hid (((w.alloc (.cells #[h] 3)).alloc (.map #[] 0)).ownsMap prog 3 RV (w.heap.size+1) 0 (.map [])):=by have:=oE (w.alloc (.cells #[h] 3)) prog 3 RV;rw[show (w.alloc (.cells #[h] 3)).heap.size=w.heap.size+1 by simp]at this;exact this
 have cf:=@run_makeMap prog;go_enter func216,ntmps216;go_wp2;clear cf;go_loopw [8,15] (fun _ i wr=>∃k:Nat,k<=N/\i=.int .i64 k/\Hid (wr.ownsMap prog 3 RV (w.heap.size+1) k (mapD (E.take k)))/\Hid (wr.heap[w.heap.size]?=some (.cells #[h] 3))/\Below w w wr) (fun _ i _=>N-(intOf i).toNat);case atStart =>refine⟨0,ye _,rfl,bC,tA bE.o _,(zB.alloc zL _).alloc (by simp) _⟩
 case round=>
  obtain⟨k,hk,rfl,HM,HH,HB⟩:=hrel;by_cases bb:k<N
  .obtain⟨g,o,rfl,hc⟩:=HP.o (by omega);have C:k<E.length:=(by rw[HN.o];exact bb);obtain⟨e0,e1,e2⟩:=Zu E k C;obtain⟨x,Hx⟩:=zD (E[k]);rw[Hx.o]at e0 e1 e2;obtain⟨bn,A,L,B⟩:=HE.o x (by rw[<-Hx.o];exact zx C);obtain⟨gx,ox,cx,Q⟩:∃gx ox cx,x.v=.slice (some ⟨gx,ox,none⟩) 64 cx:=by
    obtain⟨_,⟨h0,_⟩|⟨g,o,ae,G,_⟩⟩:=L
    .omega
    .exact⟨g,o,ae,by rw[G,B]⟩
   rw[Q]at e1;rw[bn]at e2;have I:∀{x} {y},w.cell? x=some y->wr.cell? x=some y:=fun h=>(HB.cell (zG h)).trans h;have c0:=I (hc _ _ e0);have c1:=I (hc _ _ e1);have c2:=I (hc _ _ e2);rw[<-yC]at c1 c2;obtain⟨f,s⟩:=zD x.n;rw[s.o]at c0 A;have HT:Hid (mapD (E.take (k+1))=(mapD (E.take k)).put (keyL f) (.held (.slice (some (gx,ox)) 64 cx))):=(by show _=_;rw[<-zR C,Z4,Hx.o,s.o,Q]);have cy:k<(N:Int):=(by omega);have c4:g<wr.heap.size:=zG c0;have cz:¬g=wr.heap.size:=(by omega);have ca:=HM.o.lt;have cB:w.heap.size<wr.heap.size:=(by omega);have bJ:Hid ((wr.alloc (.cells #[f,.slice (some (gx,ox)) 64 cx,.bool false] 204)).ownsMap prog 3 RV (w.heap.size+1) k (mapD (E.take k))):=HM.o.alloc _;have aV:Hid (Below w w (wr.alloc (.cells #[f,.slice (some (gx,ox)) 64 cx,.bool false] 204))):=HB.alloc HB.size _;have b1:Hid ((wr.alloc (.cells #[f,.slice (some (gx,ox)) 64 cx,.bool false] 204)).heap[w.heap.size]?=some (.cells #[.int .i64 h] 3)):=tA HH.o _;have bs:Hid (keyOf prog 3 (.int .i64 f)=some (keyL f)):=keyOf_int_mk (by kernel_rfl) (iD f A);clear hc e0 e1 e2 I Q L B ca bn;go_wp2_with (at_mapUpdate;refine qF _ rfl _ _ _ 109 rfl 3 56 Ze YO RV (w.heap.size+1) k (mapD (E.take k)) rfl bJ.o (by unfold maxLen;omega) _ _ (keyL f) rfl rfl bs.o _ [] rfl ?_;intro w1 X m)
   have cl:Hid (w1.ownsMap prog 3 RV (w.heap.size+1) (k+1) (mapD (E.take (k+1)))):=(by show World.ownsMap _ _ _ _ _ _ _;rw[HT.o];exact X);have ab:=za (aV.o.grown m aV.o.size (by intro r hr;simp at hr;omega));have Z:=za ((m.block _ (xR b1.o) (by simp)).trans b1.o);clear X m c0 c1 c2;go_wp2;go_roundw;case rel=>exact⟨k+1,by omega,by go_num,cl,Z,ab.o⟩
   case measure=>simp[intOf];omega
  .have HT:Hid (E.take k=E):=zv (by rw[HN.o];omega);rw[HT.o]at HM;obtain⟨r,Hr⟩:=zD wr.heap.size;have cD:w.heap.size<r:=(by rw[<-Hr.o];exact xR HH.o);go_wp2_with (at_range;refine wpList_range_own _ rfl _ 109 rfl 3 56 Ze YO RV (w.heap.size+1) k (mapD E) rfl HM.o ?_;intro w0 af a7 bd)
   rw[Hr.o]at af bd ⊢;have bF:=za af;have bV:=za (HB.grown a7 HB.size (by simp));have bR:=za ((a7.block _ (xR HH.o) (by simp)).trans HH.o);have bf:=za (Ob E);have aA:=za (Sd fun x hx=>(HE.o x hx).2.1);clear af a7 bd HB bb hk
   go_frame
   go_loopw [9] (fun v ws=>∃(l:Lit->Bool) (aG:Nat) (O:List Rk),Hid (ws.ranges prog 3 RV (w.heap.size+1) r k (mapD E) l aG)/\Hid (ws.ownsRow (w.heap.size+1) 204 3 v O.length (O.flatMap encK))/\Hid (mm (wrs E) (w.heap.size+1) ws l O)/\Hid (ws.heap[w.heap.size]?=some (.cells #[h] 3))/\Hid (Below w w ws)) (fun _ ws=>ws.rangeLeft (w.heap.size+1) r)
   case atStart =>exact⟨_,_,[],bF,xd _ _ _ _,mm.start _ _ _ _ (fun n D hn=>by rw[bf.o.there n,hn];rfl),bR,bV⟩
   case round=>
    obtain⟨l,aG,O,HR,HO,Y,P,ag⟩:=hrel;go_wp2_with (at_next;refine wpList_next_ranges (α:=Int) (β:=Value) _ rfl _ rfl 3 Ze RV (fun x=>.int .i64 x) (fun c=>c) Sf (fun v y _=>⟨v,rfl⟩) (w.heap.size+1) r k (mapD E) l aG rfl HR.o ?_ ?_)
    .intro _ aU;have bH:=za aU;clear aU;have H:=WC Y.o;have bQ:=za (aP.o w h (w.heap.size+1) u9 O _ hh HO.o P.o (by omega));go_wp2_with fail
     refine bQ.o.mono ?_;rintro e w5 ⟨rfl,O',hp,hs,a6,ap⟩;have aT:=qb HO.o P.o (by decide);have ao:=za ((ap.block _ (xR P.o) (fun e=>aT e.symm)).trans P.o);have S:=Y.o.keep fun i c _ J=>ap.block i (xR J) (fun e=>qb HO.o J (by decide) e.symm);have aa:=Ry hh aA.o Y.o bH.o hp hs;have ac:∀x∈O',x.1<256:=fun x hx=>(S.el x (hp.mem_iff.1 hx)).1;have a3:pz w5 (w.heap.size+1) u9 (emit (tt (wrs E) h)):=(by refine⟨O'.map (toRq (wrs E)),by rw[Pi,aa],by rw[JG ac,yp];exact a6,fun x hx=>?_⟩;obtain⟨y,hy,rfl⟩:=zU.1 hx;obtain⟨G,D,bI,h2,h3,h4,h5,h6⟩:=S.el y (hp.mem_iff.1 hy);have e:(toRq (wrs E) y).D=D:=(by show (sC (wrs E) y.1).getD []=D;rw[h2];rfl);exact zu ⟨rfl,G,by rw[e];exact h3,y.2.1,y.2.2,bI,rfl,h4,h5,by rw[e];exact h6⟩);have ax:=za a3;have bv:=za (ag.o.grown ap ag.o.size (by intro q hq;have:=(HO.o.lt q hq).1;omega));obtain⟨q5,cc,am,aO⟩:=tV a6;have aK:O'.length<=256:=(by rw[hp.length_eq];exact H);have a2:=za aa;have av:=za ac;obtain⟨M,ai⟩:=zD O'.length;rw[ai.o]at am aK aO;have bO:=za aO;have c8:=xR ao.o;clear hp hs a6 ap aT S aa ac a3 aO;by_cases aD:M=0
     .have ah:Hid (pR (wrs E) h=h):=(by show _=_;unfold pR;rw[<-a2.o];have  :=yR.1 (by rw[ai.o];exact aD);rw[this];rfl);subst aD;have k0:=wM w5 _ 0 _ _ _ ao.o;subst am;go_wp2
      go_quiet (fail)
      go_wp2;go_ret2;unfold Vq;rw[ah.o];refine⟨_,rfl,(ax.o.below (UF zB _)).mono (by omega),UF bv.o _⟩
     .obtain⟨g5,rfl,_,bt⟩:=bO.o (by omega);have aE:M-1<O'.length:=(by rw[ai.o];omega);obtain⟨x,Hx⟩:=zD (O'[M-1]);have aL:=av.o x (by rw[<-Hx.o];exact zx aE);have bD:w5.cell? (g5,(M-1)*3)=some (.int .i64 x.1):=bt _ _ (by rw[<-JG (R:=wrs E) av.o];have:=(Zu (O'.map (toRq (wrs E))) (M-1) (by rw[yp];exact aE)).1;rw[this,uO,Hx.o];rfl);have ah:Hid (pR (wrs E) h=x.1):=(by show _=_;unfold pR;rw[<-a2.o,List.getLast?_map,List.getLast?_eq_getElem?,ai.o,zh aE,Hx.o];rfl);obtain⟨f,s⟩:=zD x.1;rw[s.o]at bD aL ah;have k0:=wM w5 _ 0 _ _ _ ao.o;have z0:w5.frozen? (w.heap.size,0)=false:=(by simp[World.frozen?,ao.o]);have cn:Hid (pz (w5.setCell (w.heap.size,0) (.int .i64 f)) (w.heap.size+1) (g5,0,M,cc) (emit (tt (wrs E) h))):=(by have G:=ax.o;rw[am]at G;exact G.keeps (F:=fun i=>i=w.heap.size) (yQ.setCell (by rfl) _) (fun i J _ e=>by omega));have ck:Hid (Below w w (w5.setCell (w.heap.size,0) (.int .i64 f))):=bv.o.setCell zL _;subst am;have p1:=zW (M-1) (by omega);have p2:((M:Int)-1).toNat=M-1:=(by omega);have p3:0<=(M:Int)-1:=(by omega);have p4:M-1<(M:Int):=(by omega);have p5:1<=(M:Int):=(by omega);clear bt aD;go_wp2
      go_quiet (fail)
      go_wp2;go_ret2;unfold Vq;rw[ah.o];refine⟨_,rfl,(cn.o.below (UF zB _)).mono (by omega),UF ck.o _⟩
    .intro x c kl y ps w1 aw ay aZ aJ aM az ar W cb aN;obtain⟨x',bU,rfl,_⟩:=su (q:=.i64) (by kernel_rfl) ay;have bP:x'=x:=(by injection bU with _ h;exact h.symm);subst bP;have hy:y=.held c:=(by unfold RV at aJ;injection aJ with h;injection h with h _;exact h.symm);subst hy;obtain⟨rq,bi,C,au,ad⟩:=bf.o.back _ (has_true_of_atKey aM);have A:x'=rq.n:=(by unfold keyL at C;injection C with _ h);have bS:c=rq.v:=(by have G:=aM .nil;rw[au .nil]at G;injection G with G;exact G.symm);subst A bS;obtain⟨_,A,L,B⟩:=HE.o rq bi;obtain⟨gx,ox,cx,Q⟩:∃gx ox cx,rq.v=.slice (some ⟨gx,ox,none⟩) 64 cx:=by
      obtain⟨_,⟨h0,_⟩|⟨g,o,ae,G,_⟩⟩:=L
      .omega
      .exact⟨g,o,ae,by rw[G,B]⟩
     have bg:=za az;obtain⟨ob,be,a4⟩:=LV HR.o;have ab:=za (ag.o.grown W ag.o.size (by intro q hq;simp at hq;omega));have aY:=za (oW HO.o fun b hb=>W.block b (HO.o.lt b hb).2 (by rw[<-hb];exact fun e=>(Ww HO.o HR.o).2 e.symm));have bp:=za (Y.o.keep fun i c _ J=>W.block i (xR J) (by intro e;injection e with e;subst e;rw[be]at J;injection J with J;exact a4 _ _ _ J));have Z:=za ((W.block _ (xR P.o) (by intro e;injection e with e;omega)).trans P.o);have b2:=za (QU rq.v rq.D w1 (wh.below L ab.o) B);have H:=WC Y.o;have bY:=za aZ;have a8:=za ad;have bG:=za B;have bK:=za ar;rw[Q]at aN b2;obtain⟨f,s⟩:=zD rq.n;rw[s.o]at aN A;obtain⟨ON,aW⟩:=zD O.length;rw[aW.o]at aY H;clear ay aZ aJ aM az ar W cb C au ad L B Q be a4 bi;go_wp2_with (first
      | (
       go_at_call 134;refine b2.o.mono ?_;rintro e w2 ⟨v2,rfl,t,a,a1,rfl,bz,bm,bo,K⟩
       have V:Hid (∀o,(w2.alloc o).ownsRow (w.heap.size+1) 204 3 u9 ON (O.flatMap encK)):=fun o=>(tB aY.o K).alloc o;have bh:=za (ab.o.trans (K.mono ab.o.size));have aH:=zo (xR Z.o) K.size;have ch:=za (wy K Z.o);have aB:=za K;have bZ:=za (And.intro bz (And.intro bm bo));clear K bz bm bo)
      | (at_builtin;refine yI _ rfl _ _ 200 rfl (w.heap.size+1) 204 i0 (.agg #[(),.slice none 0 0,.bool false]) 3 40 kE HI.o ci.o cj.o bL.o rfl (by decide) _ _ _ rfl (V.o _) ⟨w2.heap.size,0,none⟩ 1 1 [.int .i64 (f:Int),.slice (some ⟨t,0,none⟩) 64 a,.bool false] rfl rfl (fun j u hu=>Z2 _ #[f,.slice (some ⟨t,0,none⟩) 64 a,.bool false] _ j u hu) (fun u hu=>by simp at hu;rcases hu with rfl|rfl|rfl<;>rfl) (by unfold maxLen;omega) (by omega) (by simp;omega) ?_;intro v3 w3 U d _))
     have HG:=bZ.o;have bl:Hid (w3.ownsRow (w.heap.size+1) 204 3 v3 (O++[(f,t,a)]).length ((O++[(f,t,a)]).flatMap encK)):=(by show World.ownsRow _ _ _ _ _ _ _;rw[Lq,zm,aW.o];have e:encK (f,t,a)=[.int .i64 f,.slice (some ⟨t,0,none⟩) 64 a,.bool false]:=(by show [_,_,_]=_;rw[vz A]);rw[e];exact U);have T:=Ww (V.o (.cells #[f,.slice (some ⟨t,0,none⟩) 64 a,.bool false] 204)) ((bg.o.kept (Gh aB.o) (by simp) (by simp)).alloc (.cells #[f,.slice (some ⟨t,0,none⟩) 64 a,.bool false] 204));have bk:Hid (w3.ranges prog 3 RV (w.heap.size+1) r k (mapD E) (fun z=>l z&&!z.sameKey (keyL f)) aw):=(by have:=((bg.o.kept (Gh aB.o) (by simp) (by simp)).alloc (.cells #[f,.slice (some ⟨t,0,none⟩) 64 a,.bool false] 204)).kept d T.1 T.2;rw[<-s.o];exact this);have aF:∀i c,(w2.alloc (.cells #[f,.slice (some ⟨t,0,none⟩) 64 a,.bool false] 204)).heap[i]?=some (.cells c 5)->some i≠u9.ownBlock:=fun i c J e=>qb (V.o _) J (by decide) e.symm;have bx:Hid (mm (wrs E) (w.heap.size+1) w3 (fun z=>l z&&!z.sameKey (keyL f)) (O++[(f,t,a)])):=(by have G:=bp.o.keep fun i c _ J=>(by have h2:=wy aB.o J;have h3:=tA h2 (.cells #[f,.slice (some ⟨t,0,none⟩) 64 a,.bool false] 204);exact (d.block i (xR h3) (aF i c h3)).trans (h3.trans J.symm));have h4:=tA HG.2.1 (.cells #[f,.slice (some ⟨t,0,none⟩) 64 a,.bool false] 204);have c3:=xR Z.o;exact G.step f t a rq.D a1 (by rw[<-s.o];exact bY.o) A (by rw[<-s.o];exact a8.o) bG.o ⟨by have:=HG.1.1;omega,HG.1.2⟩ ((d.block t (xR h4) (aF t a1 h4)).trans h4) HG.2.2);have bM:Hid (w3.heap[w.heap.size]?=some (.cells #[h] 3)):=(by have h4:=tA ch.o (.cells #[f,.slice (some ⟨t,0,none⟩) 64 a,.bool false] 204);exact (d.block _ (xR h4) (fun e=>qb (V.o _) h4 (by decide) e.symm)).trans h4);have bX:=za ((bh.o.alloc bh.o.size _).grown d (by simp;omega) (by intro q hq;have:=((V.o (.cells #[f,.slice (some ⟨t,0,none⟩) 64 a,.bool false] 204)).lt q hq).1;omega));clear U d T aF aN HG;go_wp2;go_roundw;case rel=>exact⟨_,aw,_,bk,bl,bx,bM,bX⟩
     case measure=>rw[bk.o.left_eq,HR.o.left_eq];exact bK.o
end Go.Proofs.YtmanoiagchpelaaGreatDoor
namespace Go.Proofs.YtmanoiagchpelaaGreatDoor
open Go.Proofs.Tryz Go.RowKit
variable {E:List Rq} {a:Option Addr} {cap k n:Nat} {v:Value} {w:World}
def rI (w:World) (v:Value) (E:List Rq):Prop:=∃a cap,v=.slice a E.length cap/\E.length<=cap/\cap<=maxLen/\(0<E.length->∃g o,a=some ⟨g,o,none⟩/\∀(j) (x),(tb E)[j]?=some x->w.cell? ⟨g,o+j,none⟩=some x)
theorem rI.row (h:rI w v E):wh w v 3 E.length (tb E):=by
 obtain⟨a,b,rfl,i,f,c⟩:=h;refine⟨VO E,?_⟩;rcases vn E.length with e|e
 .exact zr ⟨e,a,b,by rw[e]⟩
 .obtain⟨g,o,rfl,d⟩:=c e;exact zu ⟨g,o,b,rfl,d⟩
theorem rI.below {w':World} (h:rI w v E) (l:Below w w w'):rI w' v E:=by obtain⟨a,b,rfl,f,e,k⟩:=h;refine⟨a,b,rfl,f,e,fun i=>?_⟩;obtain⟨g,o,rfl,c⟩:=k i;exact⟨g,o,rfl,fun j x d=>(l.cell (p:=⟨g,o+j,none⟩) (zG (c j x d))).trans (c j x d)⟩
theorem rI.of_owns {base:Nat} (h:w.ownsRow base 204 3 v E.length (tb E)):rI w v E:=by
 obtain⟨q,i,n,f⟩:=tV h;obtain⟨_,⟨rfl,c⟩|⟨g,b,k,rfl,p,s,o,m,_⟩⟩:=h
 .exact⟨none,0,by rw[c],by omega,by unfold maxLen;omega,fun h=>by omega⟩
 .refine⟨_,b,rfl,o,m,fun c=>?_⟩;obtain⟨r,e,_,d⟩:=f c;injection n with a _ _;rw[e]at a;injection a with a;injection a with a _ _;subst a;exact⟨g,0,rfl,fun j x l=>by rw[yO];exact d j x l⟩
theorem rI.take (h:rI w (a,n,cap) E) (r:k<=n):rI w (a,k,cap) (E.take k):=by
 obtain⟨p,d,e,q,f,l⟩:=h;cases e;have c:(E.take k).length=k:=by rw[zj];omega
 refine⟨a,cap,by rw[c],by rw[c];omega,f,fun i=>?_⟩;rw[c]at i;obtain⟨g,o,rfl,m⟩:=l (by omega);refine⟨g,o,rfl,fun j x b=>m j x ?_⟩;rw[<-(I5 E k).1,zI]at b;split at b
 .exact b
 .cases b
theorem rI.drop {g o:Nat} (h:rI w (g,o,n,cap) E) (t:k<=n):rI w (g,o+k*3,(n-k),(cap-k)) (E.drop k):=by obtain⟨p,b,d,q,m,i⟩:=h;cases d;have a:(E.drop k).length=E.length-k:=yB;refine⟨_,_,by rw[a],by rw[a];omega,by omega,fun f=>?_⟩;rw[a]at f;obtain⟨r,s,e,l⟩:=i (by omega);cases e;refine⟨g,_,rfl,fun j x c=>?_⟩;rw[<-(I5 E k).2,yw]at c;rw[yC];exact l _ x c
theorem rI.none (h:cap<=maxLen):rI w (.slice a 0 cap) []:=⟨a,cap,rfl,ye _,h,fun h=>by simp at h⟩
theorem V4 {ops:Array Oper} {rest:List Oper} {o:Oper} {a:Act} {Q:Exit->Act->World->Prop} (Y:o.guard=none) (s x)
 (ho:o.op=.call {callee:=.builtin .append,args:=#[s,x],argTypes:=#[200,200]}) (v pv) (base base2) (O L) (hs:a.eval s=v) (hx:a.eval x=pv)
 (hO:pz w base v O) (hP:pz w base2 pv L) (hb:base<=base2) (Z:base<=w.heap.size) (ae:O.length+L.length<=1000000)
 (h:∀v' w',pz w' base v' (O++L)->w.grownBy w' v.ownBlock->wpList prog ops Q rest (a.put o.dst v') w'):wpList prog ops Q (o::rest) a w:=by
 obtain⟨H,p,z,B,C⟩:=xy jk;obtain⟨E,D,q,F⟩:=hO;obtain⟨r,f,I,G⟩:=hP;have U:=iU D;have M:=iU f;have T:=I;obtain⟨_,⟨rfl,J⟩|⟨g,A,R,rfl,V,S,W,X,P,K⟩⟩:=I
 .have N:=yR.1 J;subst N;refine wpList_append_own_none Y s x 200 ho base 204 H 3 kE p v E.length (tb E) hs q hx (h v w ?_ ⟨rfl,rfl,rfl,zL,fun _ _ _=>rfl⟩);refine⟨E,?_,q,F⟩;rw[D];have:L=[]:=by rw[<-f];rfl
  rw[this,yX]
 .refine yI w Y s x 200 ho base 204 H (.agg #[(),.slice none 0 0,.bool false]) 3 40 kE p z B C rfl (by decide) v E.length (tb E) hs q ⟨g,0,none⟩ r.length A (tb r) hx (VO r) (fun j u t=>?_) (Rn G) (by unfold maxLen;omega) (by omega) Z fun v' w' l d _=>h v' w' ?_ d
  .have m:(⟨g,0,none⟩:Addr).add j=⟨g,j,none⟩:=(by unfold Addr.add;split<;>simp_all);rw[m,zC S];rw[<-K,zI]at t;split at t
   .simpa using t
   .cases t
  .have b:∀(i:Nat) (c),w.heap[i]?=some (.cells c 5)->w'.heap[i]?=w.heap[i]? :=fun i c k=>d.block i (xR k) (fun e=>qb q k (by decide) e.symm);refine⟨E++r,by rw[yy,D,f],by rw[zm,U3];exact l,fun y n=>?_⟩;rcases yo.1 n with n|n
   .exact (F y n).keep fun i c _ k=>b i c k
   .exact ((G y n).mono hb).keep fun i c _ k=>b i c k
theorem Np (h:E.findIdx? (fun x=>x.b)=none):barI E = -1/\(∀x∈E,x.b=false)/\E.map rab=emit (wrs E):=by
 have c:∀x∈E,x.b=false:=fun x a=>by rw[vV]at h;exact h x a
 refine⟨by unfold barI;rw[h],c,?_⟩;unfold emit wrs;rw[vr];refine xY fun x a=>?_;show (x.n,x.D,x.b)=(x.n,x.D,false);rw[c x a]
theorem Nn (h:E.findIdx? (fun x=>x.b)=some k):∃hk,barI E=k/\(∀x∈E.take k,x.b=false)/\E.map rab=emit (wrs (E.take k))++(E[k].n,E[k].D,true)::(E.drop (k+1)).map rab:=by
 have i:=h;rw[xP]at h;obtain⟨hk,g,f⟩:=h;have d:∀x∈E.take k,x.b=false:=fun x c=>by
  obtain⟨j,e,rfl⟩:=va c;rw[nV];have a:j<k:=by rw[zj]at e;omega
  simpa using f j a
 refine⟨hk,by unfold barI;rw[i],d,?_⟩
 conv=>lhs;rw[<-xC k E,xp hk,yy,yF]
 congr 1
 .unfold emit wrs;rw[vr];refine xY fun x c=>?_;show (x.n,x.D,x.b)=(x.n,x.D,false);rw[d x c]
 .congr 1
  show (E[k].n,E[k].D,E[k].b)=_;rw[g]
theorem X9 (P):(emit P).length=P.length:=by simp[emit]
theorem YD (E):(wrs E).length=E.length:=by simp[wrs]
theorem Wu (h:∀x∈E,RqOk w x) (e:∀x∈E,x.b=false):∀x∈E,x.b=false/\x.n<256/\vQ w x.v x.D/\x.D.length=64:=by
 intro x c;have d:=e x c;rcases h x c with⟨a,_⟩|a
 .rw[d]at a;cases a
 .exact a
theorem JN (w:World) (base) (h:base<=w.heap.size):pz (w.alloc (.cells #[(),.slice none 0 0,.bool true] 204)) base (.slice (some ⟨w.heap.size,0,none⟩) 1 1) [barR]:=
 ⟨[⟨0,.slice none 0 0,[],true⟩],rfl,⟨rfl,zu ⟨w.heap.size,1,_,rfl,h,zT w _,zL,by unfold maxLen;omega,rfl,rfl⟩⟩,fun x a=>by simp at a;subst a;exact zr ⟨rfl,rfl,rfl,rfl⟩⟩
theorem N1 (h) (b:h<256):rh [] h []=[]:=by have a:=K6 [] h b;exact yR.1 (by simpa using a)
def Kt (L:List Rb) (h:Nat) (w:World) (e:Ending) (w':World):Prop:=
 ∃v',e=.returned (.tuple #[v',()])/\pz w' w v' (qA L h)/\Below w w w'
theorem P2 (aa:Kr) (v) (E) (h:Nat) (hh:h<256) (w) (hv:rI w v E) (hE:∀x∈E,RqOk w x) (hl:E.length<=100):
 Calls prog 181 #[v,h] w (Kt (E.map rab) h w):=by
 have X:=za aa;clear aa;have HV:=za hv;have HE:=za hE;have HR:=za (fun W (hW:Below w w W)=>Rp v E W (wh.below hv.row hW) (fun x u=>(hE x u).below hW) hl);have b1:decide ((h:Int)<0)=false:=by rw[zM];omega
 have b2:decide (256<=(h:Int))=false:=by rw[zM];omega
 have b3:¬256<=(h:Int):=by omega
 have b4:¬256<=h:=by omega
 clear hv hE;go_enter func181,ntmps181;go_wp2_with fail
 refine (HR.o _ zB).mono ?_;rintro e w1 ⟨rfl,ax⟩;have a9:=za ax;clear ax b1 b2 b3 b4;go_wp2;obtain⟨i0,au,an,aw,I⟩:=xy jk;have HI:=za au;have bf:=za an;have bg:=za aw;have aT:=za I;clear au an aw I;go_loopw [0,1,7] (fun lv hd o wr=>∃(f:List Rq) (m:Nat) (O:List Rb),Hid (rI w lv f)/\Hid (∀x∈f,x∈E)/\f.length+O.length<=100/\hd=.int .i64 (m:Int)/\m<256/\Hid (pz wr w o O)/\Hid (O++rh [] m (f.map rab)=qA (E.map rab) h)/\Hid (Below w w wr)) (fun lv _ _ _=>match lv with|.slice _ n _=>n|_=>0);case atStart =>exact⟨E,h,[],HV,fun x u=>u,by simp;exact hl,rfl,hh,⟨[],rfl,xd _ _ _ _,fun x u=>by simp at u⟩,rfl,a9⟩
 case round=>
  obtain⟨f,m,O,Q,HS,am,rfl,B,HO,S,HB⟩:=hrel;obtain⟨a,J,ay,aE,ap,ag⟩:=Q.o;obtain⟨n,HN⟩:=zD f.length;rw[HN.o]at ay aE am ag;subst ay;have a4:=za ag;have aZ:=za ap;unfold maxLen at ap;clear ag;by_cases hn:0<n
  .obtain⟨g,o,rfl,a2⟩:=a4.o hn;clear a2;have ah:Hid (∀x∈f,RqOk w x):=fun x u=>HE.o x (HS.o x u);have a6:=za (Q6 _ f _ (wh.below Q.o.row HB.o) (fun x u=>(ah.o x u).below HB.o) (by rw[HN.o];omega));have aW:=HB.o.size;go_wp2_with fail
   refine a6.o.mono ?_;rintro e w2 ⟨rfl,ae⟩;have A:=za (zf HB.o ae);have ad:=za (HO.o.below ae);have I:=A.o.size;clear ae;cases Y:f.findIdx? (fun x=>x.b) with
   | none=>
    obtain⟨N,U,M⟩:=Np Y;have al:=za N;have K:=za (XD X.o _ f m B w2 (wh.below Q.o.row A.o) (fun x u=>Wu (fun y hy=>(ah.o y hy).below A.o) U x u) (by rw[HN.o];omega));unfold Vq at K;have T:=za M;clear Y N U M;rw[al.o];have a8:Hid ((emit (tt (wrs f) m)).length<=n):=(by show _<=_;rw[X9,<-HN.o,<-YD];exact Z1 _ _ B);have aD:=a8.o;have q1:decide ((-1)<0)=true:=(by decide);have q2:0<=(n:Int):=(by omega);have q3:n<=(J:Int):=(by omega);have H:Hid ((O++emit (tt (wrs f) m))++rh [] (pR (wrs f) m) (([]).map rab)=qA (E.map rab) h):=(by have p:=S.o;rw[T.o,jU,yU]at p;show (O++_)++rh [] _ []=_;rw[N1 _ (ZW _ _ B),yX];exact p);have Z:=ZW (wrs f) m B;clear S T;generalize emit (tt (wrs f) m)=L at *
    generalize pR (wrs f) m=h3 at *
    by_cases P:J=n;all_goals
     try subst P
     go_wp2_with (first
      | (
       go_at_call 216;refine K.o.mono ?_;rintro e w3 ⟨pv,rfl,s,j⟩
       have R:=za s;have D:=za (ad.o.below j);have C:=za (zf A.o j);have t:=C.o.size;clear s j)
      | (at_builtin;refine V4 rfl _ _ rfl _ _ w.heap.size _ _ _ rfl rfl D.o R.o I t (by omega) ?_;intro v4 w4 d c))
     have F:=za d;have G:=za (C.o.grown c t (fun q hq=>by obtain⟨_,_,p,_⟩:=D.o;exact (p.lt q hq).1));clear d c;go_wp2;go_roundw;case rel=>exact⟨[],h3,_,rI.none (by unfold maxLen;omega),fun x u=>by simp at u,by simp;omega,rfl,Z,F,H,G⟩
     case measure=>simp;omega
   | some k=>
    obtain⟨aC,N,U,M⟩:=Nn Y;have al:=za N;have aO:k<n:=(by rw[<-HN.o];exact aC);have aA:Hid (rI w (g,o,k,J) (f.take k)):=Q.o.take (by omega);have aj:(f.take k).length=k:=(by rw[zj];omega);have K:=za (XD X.o _ (f.take k) m B w2 (wh.below aA.o.row A.o) (fun x u=>Wu (fun y hy=>(ah.o y (yY hy)).below A.o) U x u) (by rw[aj];omega));unfold Vq at K;have T:=za M;have aD:(emit (tt (wrs (f.take k)) m)).length<=k:=(by rw[X9];have p:=Z1 (wrs (f.take k)) m B;rw[YD,aj]at p;exact p);clear Y N U M aj;rw[al.o];have q1:decide ((k:Int)<0)=false:=(by rw[zM];omega);have q2:0<=(k:Int):=(by omega);have q3:k<=(J:Int):=(by omega);have q4:k<(n:Int):=(by omega);have q5:k+1<=(n:Int):=(by omega);have q6:n<=(J:Int):=(by omega);have q7:=zW (k+1) (by omega);have q8:((k:Int)+1).toNat=k+1:=(by omega);have q9:0<=(k:Int)+1:=(by omega);have H:Hid (((O++emit (tt (wrs (f.take k)) m))++[barR])++rh [] (pR (wrs (f.take k)) m) ((f.drop (k+1)).map rab)=qA (E.map rab) h):=(by have p:=S.o;rw[T.o,VP,yU]at p;show _=_;rw[<-p];simp);have Z:=ZW (wrs (f.take k)) m B;have aB:=za (Q.o.drop (k:=k+1) (by omega));have aq:Hid (∀x∈f.drop (k+1),x∈E):=fun x u=>HS.o x (wd u);have af:(f.drop (k+1)).length=n-(k+1):=(by rw[yB,HN.o]);clear S T;generalize emit (tt (wrs (f.take k)) m)=L at *
    generalize pR (wrs (f.take k)) m=h3 at *
    have ao:(O++L).length+[barR].length<=1000000:=(by rw[zm];simp;omega);have ab:(O++L++[barR]).length=O.length+L.length+1:=(by simp;omega);by_cases P:J=k+1
    .have a3:n=k+1:=(by omega);subst P;subst a3;go_wp2_with (first
      | (
       go_at_call 216;refine K.o.mono ?_;rintro e w3 ⟨pv,rfl,s,j⟩
       have R:=za s;have D:=za (ad.o.below j);have C:=za (zf A.o j);have t:=C.o.size;have r:=trivial;clear s j)
      | (
       at_builtin;have _t:=r;refine V4 rfl _ _ rfl _ _ w.heap.size _ _ _ rfl rfl D.o R.o I t (by omega) ?_;intro v4 w4 d c
       have F:=za d;have G:=za (C.o.grown c t (fun q hq=>by obtain⟨_,_,p,_⟩:=D.o;exact (p.lt q hq).1));have V:=G.o.size;have z:=trivial;clear d c r _t)
      | (
       at_builtin;have _t:=z;refine V4 rfl _ _ rfl _ _ w.heap.size w.heap.size _ _ rfl rfl (F.o.below (zB.alloc zL _)) (JN w4 w V) zL (by simp;omega) ao ?_;intro v5 w5 l i
       have ac:=za l;have ak:=za ((G.o.alloc V _).grown i (by simp;omega) (fun q hq=>by obtain⟨_,_,p,_⟩:=F.o;exact (p.lt q hq).1));clear l i z _t))
     have a1:=yR.1 (by rw[af];omega);go_roundw;case rel=>exact⟨f.drop (k+1),h3,_,by rw[a1];exact rI.none (by unfold maxLen;omega),aq,by rw[af,ab];omega,rfl,Z,ac,H,ak⟩
     case measure=>simp
    .go_wp2_with (first
      | (
       go_at_call 216;refine K.o.mono ?_;rintro e w3 ⟨pv,rfl,s,j⟩
       have R:=za s;have D:=za (ad.o.below j);have C:=za (zf A.o j);have t:=C.o.size;have r:=trivial;clear s j)
      | (
       at_builtin;have _t:=r;refine V4 rfl _ _ rfl _ _ w.heap.size _ _ _ rfl rfl D.o R.o I t (by omega) ?_;intro v4 w4 d c
       have F:=za d;have G:=za (C.o.grown c t (fun q hq=>by obtain⟨_,_,p,_⟩:=D.o;exact (p.lt q hq).1));have V:=G.o.size;have z:=trivial;clear d c r _t)
      | (
       at_builtin;have _t:=z;refine V4 rfl _ _ rfl _ _ w.heap.size w.heap.size _ _ rfl rfl (F.o.below (zB.alloc zL _)) (JN w4 w V) zL (by simp;omega) ao ?_;intro v5 w5 l i
       have ac:=za l;have ak:=za ((G.o.alloc V _).grown i (by simp;omega) (fun q hq=>by obtain⟨_,_,p,_⟩:=F.o;exact (p.lt q hq).1));clear l i z _t))
     go_roundw;case rel=>exact⟨f.drop (k+1),h3,_,aB,aq,by rw[af,ab];omega,rfl,Z,ac,H,ak⟩
     case measure=>simp;omega
  .have ar:n=0:=(by omega);have he:=yR.1 (by rw[HN.o];exact ar);have HF:Hid (O=qA (E.map rab) h):=(by have p:=S.o;rw[he]at p;show _=_;rw[<-p];have h2:=K6 [] m B;have  :=yR.1 (by simpa using h2);show O=O++rh [] m [];rw[this,yX]);subst ar;clear he hn;go_wp2;go_ret2;refine⟨_,rfl,?_,HB.o⟩;rw[<-HF.o];exact HO.o
