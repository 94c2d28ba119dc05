import Derived.Test.YtakfhadmokoikaaGreatDoorKA6
import Derived.Test.YtakfhadmokoikaaGreatDoorKA18
import Derived.Maps.RangeWalk
import Derived.Maps.Views
import Derived.Carry
import Derived.Laws.AppendOwnNone
set_option maxHeartbeats 0
set_option linter.all false
set_option maxRecDepth 100000
namespace Go.Proofs.YtakfhadmokoikaaGreatDoor
open Go.Proofs.Tryz Go.RowKit
variable {D:List Int} {E:List Rq} {F:Nat->Prop} {O:List Rk} {R:List Wr} {a w w':World} {b base c cnt kd m n r size:Nat} {e:TypeId} {left:Lit->Bool} {st:Dk} {v:Value} {xs:List Value}
def hB (D:List Int) (j:Nat):Int:=D.getD j 0
def mE (N:List Int):Int:=rdB (hB (sec N 5) 1) (hB (sec N 5) 2) (hB (sec N 5) 3) (hB (sec N 5) 4)
def pU (N:List Int):Nat:=(hB (sec N 5) 5).toNat
def lh (N:List Int) (n:Nat):List Wr:=(List.range n).map fun i=>((hB (sec N 5) (6+i)).toNat,sec N (6+i))
def oZ (N:List Int):Bool:=(hB (sec N 5) 0==74)&&decide (1<=pU N)&&decide (pU N<=30)
def qT (N:List Int):Bool:=(hB (sec N (6+pU N)) 0==67)&&(rdB (hB (sec N (6+pU N)) 1) (hB (sec N (6+pU N)) 2) (hB (sec N (6+pU N)) 3) (hB (sec N (6+pU N)) 4)==mE N) &&
 (rdB (hB (sec N (6+pU N)) 5) (hB (sec N (6+pU N)) 6) (hB (sec N (6+pU N)) 7) (hB (sec N (6+pU N)) 8)==sumW (lh N (pU N)))
theorem OU (N:List Int) (n:Nat):lh N (n+1)=lh N n++[((hB (sec N 5) (6+n)).toNat,sec N (6+n))]:=by unfold lh;rw[vH,yB];rfl
theorem L3 (N:List Int) (n:Nat):(lh N n).length=n:=by unfold lh;simp
def ue (D:List Int):Prop:=∀x∈D,0<=x/\x<=255
theorem ue.get (h:ue D) (j:Nat):0<=hB D j/\hB D j<=255:=by
 unfold hB;rw[zh];cases a:D[j]? with
 | none=>simp
 | some x=>exact h x (xK a)
theorem ue.sec (h:ue D) (n:Nat):ue (sec D n):=fun x a=>h x (xY (xd a))
theorem KM (h:lq D w v w') (l:D.length=64):∃g cap cur,v=.slice (some ⟨g,0,none⟩) 64 cap/\64<=cap/\w.heap.size<=g/\g<w'.heap.size/\(∀j,j<64->w'.cell? ⟨g,j,none⟩=some (.int .u8 (hB D j)))/\w'.heap[g]?=some (.cells cur 5)/\cur.toList.take 64=u8s D/\Below w w w':=by obtain⟨g,cap,cur,d,⟨i,e⟩,b,a,k⟩:=h;rw[l]at d e a;refine⟨g,cap,cur,d,e,i,xL b,fun j f=>?_,b,a,k⟩;rw[zC b];have c:(u8s D)[j]?=some (.int .u8 (D[j]' (by omega))):=sJ D j (by omega);rw[<-a,zI,ze f]at c;unfold hB;rw[zh,zf (by omega)];simpa using c
theorem jwInfo: (prog.info? 163).map (fun i=>(i.zero,i.size,i.bytes))=some (some (.agg #[(),.slice none 0 0]),2,32):=by kernel_rfl
theorem jwT: prog.underlying 108=some (.slice 163):=by kernel_rfl
theorem Q3 {d:Value} (g:64<=kd) (i:kd<=256) (h:uL w d st kd F):Calls prog 138 #[d,(5:Int),(32:Int)] w fun e w'=>e=.returned ()/\w=w':=by
 have b:=Lib.hid (mC h);obtain⟨a,rfl⟩:=h.ptr;clear h;have c:=zW ((kd:Int)-32);have f:¬((kd:Int)-32<5):=by omega
 go_enter func138,ntmps138
 go_wp2_with fail
 refine b.o.mono ?_;rintro e w' ⟨rfl,rfl⟩;go_wp2;go_ret;exact⟨rfl,rfl⟩
def iX (N:List Int) (w:World) (e:Ending) (w':World):Prop:=
 (oZ N=false/\e=.returned (.tuple #[.slice none 0 0,.int .u32 0,.bool false,()])/\Below w w w') \/
 (oZ N=true/\qT N=false/\e=.returned (.tuple #[.slice none 0 0,.int .u32 (mE N),.bool false,()])/\Below w w w') \/
 (oZ N=true/\qT N=true/\∃v E,e=.returned (.tuple #[v,.int .u32 (mE N),.bool true,()])/\E.map jab=lh N (pU N)/\qA w' w w v E/\Below w w w')
theorem Sv {a:Addr} (aa:64<=kd) (aq:kd<=256) (h:uL w (.pointer (some a)) st kd F) (hN:ue st.N):
 Calls prog 98 #[.pointer (some a),(5:Int),(32:Int)] w (iX st.N w):=by
 unfold iX;have HD:=Lib.hid h;have aJ:=h.lens.2;have af:∀n,n<kd->(sec st.N n).length=64:=fun n hn=>mD aJ hn;have s:=Lib.hid af;have ag:=Lib.hid (fun n j=>(hN.sec n).get j);have aT:=Lib.hid (Q3 aa aq h);have aF:=Lib.hid (gT h 5 (by omega));clear af aJ h;go_enter func98,ntmps98;go_wp2_with fail
 refine aT.o.mono ?_;rintro e w' ⟨rfl,rfl⟩;go_wp2_with fail
 refine aF.o.mono ?_;rintro e w1 ⟨v1,rfl,aA⟩;obtain⟨g,X,_,rfl,bD,bR,aH,hc,_,_,ba⟩:=KM aA (s.o 5 (by omega));have HC:=Lib.hid hc;have V:=Lib.hid ba;obtain⟨x0,aV⟩:=zD (hB (sec st.N 5) 0);obtain⟨n,Hn⟩:=zD (pU st.N);have aK:hB (sec st.N 5) 5=(n:Int):=by have:=ag.o 5 5;rw[<-Hn.o];unfold pU;omega
 have c0:=hc 0 (by omega);have c5:=hc 5 (by omega);rw[aV.o]at c0;rw[aK]at c5;have bn:(n:Int)<=255:=by have:=ag.o 5 5;omega
 have O:Hid (oZ st.N=((x0==74)&&decide (1<=n)&&decide (n<=30))):=by show _=_;unfold oZ;rw[aV.o,Hn.o]
 clear hc aA ba aK aF aT;by_cases P:x0=74;case neg=>
  have B:(x0==74)=false:=by simpa using P
  have b2:(x0 != 74)=true:=by simp[bne,B]
  have M:Hid (oZ st.N=false):=by show _=_;rw[O.o,B];rfl
  clear P;go_wp2;exact yS (v:=.tuple #[.slice none 0 0,.int .u32 0,.bool false,()]) (by simp[results,ux,go_sem]) rfl (zt ⟨M.o,rfl,V.o⟩)
 have B:(x0==74)=true:=by simpa using P
 have b2:(x0 != 74)=false:=by simp[bne,B]
 clear P;by_cases bg:1<=n;case neg=>
  have d1:decide (n<1)=true:=by rw[yJ];omega
  have bt:n=0:=by omega
  subst bt;have M:Hid (oZ st.N=false):=by show _=_;rw[O.o,B];rfl
  go_wp2;exact yS (v:=.tuple #[.slice none 0 0,.int .u32 0,.bool false,()]) (by simp[results,ux,go_sem]) rfl (zt ⟨M.o,rfl,V.o⟩)
 by_cases aU:n<=30;case neg=>
  have d1:decide ((n:Int)<1)=false:=by rw[zJ];omega
  have d2:decide ((30:Int)<(n:Int))=true:=by rw[yJ];omega
  have d3:decide (n<1)=false:=by rw[zJ];omega
  have d4:decide (30<n)=true:=by rw[yJ];omega
  have M:Hid (oZ st.N=false):=by show _=_;rw[O.o,zK aU];simp
  go_wp2;exact yS (v:=.tuple #[.slice none 0 0,.int .u32 0,.bool false,()]) (by simp[results,ux,go_sem]) rfl (zt ⟨M.o,rfl,V.o⟩)
 have M:Hid (oZ st.N=true):=by show _=_;rw[O.o,B,yf bg,yf aU];rfl
 have d1:decide ((n:Int)<1)=false:=by rw[zJ];omega
 have d2:decide ((30:Int)<(n:Int))=false:=by rw[zJ];omega
 have d3:decide (n<1)=false:=by rw[zJ];omega
 have d4:decide (30<n)=false:=by rw[zJ];omega
 have bs:¬X=1:=by omega
 have bc:¬(1:Nat)=X:=by omega
 have b9:1<=X:=by omega
 obtain⟨sq,z⟩:=zD (mE st.N);have aG:=Lib.hid (gC (hB (sec st.N 5) 1) (hB (sec st.N 5) 2) (hB (sec st.N 5) 3) (hB (sec st.N 5) 4) g 1 63 (X-1) (by omega) w1 (HC.o 1 (by omega)) (HC.o 2 (by omega)) (HC.o 3 (by omega)) (HC.o 4 (by omega)));rw[show rdB (hB (sec st.N 5) 1) (hB (sec st.N 5) 2) (hB (sec st.N 5) 3) (hB (sec st.N 5) 4)=sq from z.o]at aG;go_wp2_with fail
 refine aG.o.mono ?_;rintro e G ⟨rfl,S⟩;have C:Hid (Below w w G):=Below.step V.o S;have bq:Hid (∀j,j<64->G.cell? ⟨g,j,none⟩=some (.int .u8 (hB (sec st.N 5) j))):=fun j hj=>(S.cell (p:=⟨g,j,none⟩) aH).trans (HC.o j hj);have b0:g<G.heap.size:=zm aH S.size;obtain⟨i0,aS,aC,aW,aN⟩:=xp jwInfo;have b8:=Lib.hid aS;have bl:=Lib.hid aC;have bi:=Lib.hid aW;have bv:=Lib.hid aN;clear S c0 c5 d1 d2 d3 d4 HC aS aC aW aN B b2;go_wp2;go_loopw [15,56] (fun l i wr=>∃(k:Nat) (E:List Jw),k<=n/\i=.int .i64 k/\Hid (E.map jab=lh st.N k)/\Hid (qA wr G w l E)/\Hid (Below G G wr)) (fun _ i _=>n-(intOf i).toNat);case atStart=>exact⟨0,[],ye _,rfl,rfl,⟨yW _ _ _ _,fun x hx=>by simp at hx⟩,zB⟩
 case round=>
  obtain⟨k,E,hk,rfl,I,HJ,HB⟩:=hrel;by_cases bS:k<n
  .have K:=Lib.hid (HD.o.below (Below.step C.o HB.o));have ar:=Lib.hid (gT K.o (6+k) (by omega));rw[show ((6+k:Nat):Int)=6+(k:Int) by omega]at ar;have bN:(k:Int)<(n:Int):=(by omega);go_wp2_with fail
   refine ar.o.mono ?_;rintro e Q ⟨v3,rfl,J⟩;obtain⟨A,b,aL,rfl,aj,ac,bJ,_,aP,aM,m⟩:=KM J (s.o (6+k) (by omega));have am:=Lib.hid (HJ.o.below m);have D:Hid (Below G G Q):=HB.o.trans (m.mono HB.o.size);have aB:=ag.o 5 (6+k);obtain⟨y,Hy⟩:∃y:Nat,Hid (hB (sec st.N 5) (6+k)=(y:Int)):=⟨(hB (sec st.N 5) (6+k)).toNat,by show _=_;omega⟩;have br:(y:Int)<=255:=(by rw[<-Hy.o];exact aB.2);have c6:Q.cell? (g,6+k)=some (.int .u8 (y:Int)):=(by rw[<-Hy.o];exact (D.o.cell (p:=⟨g,6+k,none⟩) b0).trans (bq.o (6+k) (by omega)));have bk:Hid (qW (Q.alloc (.cells #[y,.slice (some ⟨A,0,none⟩) 64 b] 163)) w ⟨y,.slice (some ⟨A,0,none⟩) 64 b,sec st.N (6+k)⟩):=
    ⟨by show y<256;omega,s.o (6+k) (by omega),A,b,aL,rfl,⟨zr C.o.size (zr HB.o.size ac),aj⟩,tf aP _,aM⟩
   have aO:Hid ((E++[(⟨y,.slice (some ⟨A,0,none⟩) 64 b,sec st.N (6+k)⟩:Jw)]).map jab=lh st.N (k+1)):=(by show _=_;rw[yB,I.o,OU,Hy.o];rfl);have al:E.length=k:=by
    have:=congrArg List.length I.o
    rwa [yw,L3]at this
   have aI:=Lib.hid al;have bh:=D.o.size;have ce:k<30:=(by omega);have e9:6+k<64:=(by omega);have bw:Hid ((Q.alloc (.cells #[y,.slice (some ⟨A,0,none⟩) 64 b] 163)).heap[Q.heap.size]?=some (.cells #[y,.slice (some ⟨A,0,none⟩) 64 b] 163)):=zH;have ah:=Lib.hid (am.o.below (zB.alloc zL (.cells #[y,.slice (some ⟨A,0,none⟩) 64 b] 163)));clear aB m J aP aM ac al K ar;go_wp2_with (at_builtin;refine yH _ rfl _ _ 108 rfl G.heap.size 163 i0 (.agg #[(),.slice none 0 0]) 2 32 jwT b8.o bl.o bi.o bv.o rfl (by decide) _ _ _ rfl ah.o.1 ⟨_,0,none⟩ 1 1 [.int .i64 (y:Int),.slice (some ⟨A,0,none⟩) 64 b] rfl rfl (xU (cs:=#[.int .i64 (y:Int),.slice (some ⟨A,0,none⟩) 64 b]) (t:=163) (fr:=(0,0)) bw.o) (by simp[Value.oneCell']) (by rw[aI.o];unfold maxLen;omega) (by rw[aI.o];omega) (by simp;omega) ?_;intro v5 w5 ae r _)
   have Z:Hid (qA w5 G w v5 (E++[(⟨y,.slice (some ⟨A,0,none⟩) 64 b,sec st.N (6+k)⟩:Jw)])):=by
    have H:∀(i:Nat) (c:Array Value),(Q.alloc (.cells #[y,.slice (some ⟨A,0,none⟩) 64 b] 163)).heap[i]?=some (.cells c 5)->w5.heap[i]?=(Q.alloc (.cells #[y,.slice (some ⟨A,0,none⟩) 64 b] 163)).heap[i]? :=fun i c hi=>r.block i (xL hi) (fun e=>rW ah.o.1 hi (by decide) e.symm);refine⟨by rw[zl,IG];exact ae,fun x hx=>?_⟩;rcases yv.1 hx with hx|hx
    .exact (ah.o.2 x hx).keep fun i c _ hi=>H i c hi
    .rw[xw]at hx;subst hx;exact bk.o.keep fun i c _ hi=>H i c hi
   have an:Hid (Below G G w5):=xC (D.o.alloc bh _) r (by simp;omega) (fun q hq=>(HJ.o.1.lt q hq).1);clear ae r;go_wp2;go_roundw;case rel=>exact⟨k+1,E++[(⟨y,.slice (some ⟨A,0,none⟩) 64 b,sec st.N (6+k)⟩:Jw)],by omega,by go_num,aO,Z,an⟩
   case measure=>simp[intOf];omega
  .obtain rfl:k=n:=(by omega);have K:=Lib.hid (HD.o.below (Below.step C.o HB.o));have ai:=Lib.hid (gT K.o (6+k) (by omega));rw[show ((6+k:Nat):Int)=6+(k:Int) by omega]at ai;have aY:Below w w wr:=C.o.trans (HB.o.mono C.o.size);have b7:=Lib.hid aY;clear aY K;go_wp2_with fail
   refine ai.o.mono ?_;rintro e Q ⟨v3,rfl,J⟩;obtain⟨gt,d,_,rfl,bp,bL,a9,ao,_,_,m⟩:=KM J (s.o (6+k) (by omega));have D:=Lib.hid (Below.step b7.o m);have am:=Lib.hid (HJ.o.below m);have L:=Lib.hid ao;have aE:=ao 0 (by omega);obtain⟨t0,a5⟩:=zD (hB (sec st.N (6+k)) 0);rw[a5.o]at aE;obtain⟨ts,a2⟩:=zD (rdB (hB (sec st.N (6+k)) 1) (hB (sec st.N (6+k)) 2) (hB (sec st.N (6+k)) 3) (hB (sec st.N (6+k)) 4));obtain⟨tz,aR⟩:=zD (rdB (hB (sec st.N (6+k)) 5) (hB (sec st.N (6+k)) 6) (hB (sec st.N (6+k)) 7) (hB (sec st.N (6+k)) 8));obtain⟨sw,a4⟩:=zD (sumW (lh st.N k));have T:Hid (qT st.N=((t0==67)&&(ts==sq)&&(tz==sw))):=(by show _=_;unfold qT;rw[Hn.o,a5.o,a2.o,aR.o,a4.o,z.o]);have al:E.length=k:=by
    have:=congrArg List.length I.o
    rwa [yw,L3]at this
   clear ao J m ai;by_cases R:t0=67;case neg=>
    have B:(t0==67)=false:=(by simpa using R);have b2:(t0 != 67)=true:=(by simp[bne,B]);have f:Hid (qT st.N=false):=(by show _=_;rw[T.o,B];rfl);clear R;go_wp2;exact yS (v:=.tuple #[.slice none 0 0,.int .u32 (mE st.N),.bool false,()]) (by simp[results,ux,go_sem,z.o]) rfl (zu (zt ⟨M.o,f.o,rfl,D.o⟩))
   have B:(t0==67)=true:=(by simpa using R);have b2:(t0 != 67)=false:=(by simp[bne,B]);have bZ:¬d=1:=(by omega);have ca:1<=d:=(by omega);have bO:¬d=5:=(by omega);have bP:5<=d:=(by omega);have ab:=Lib.hid (gC (hB (sec st.N (6+k)) 1) (hB (sec st.N (6+k)) 2) (hB (sec st.N (6+k)) 3) (hB (sec st.N (6+k)) 4) gt 1 63 (d-1) (by omega) Q (L.o 1 (by omega)) (L.o 2 (by omega)) (L.o 3 (by omega)) (L.o 4 (by omega)));rw[a2.o]at ab;clear R;go_wp2_with fail
   refine ab.o.mono ?_;rintro e w4 ⟨rfl,Y⟩;have aQ:=Lib.hid (Below.step D.o Y);have bA:=Lib.hid (am.o.below Y);have u:Hid (∀j,j<64->w4.cell? ⟨gt,j,none⟩=some (.int .u8 (hB (sec st.N (6+k)) j))):=fun j hj=>(Y.cell (p:=⟨gt,j,none⟩) a9).trans (L.o j hj);clear Y aE;by_cases W:ts=sq;case neg=>
    have b3:(ts==sq)=false:=(by simpa using W);have b4:(ts != sq)=true:=(by simp[bne,b3]);have f:Hid (qT st.N=false):=(by show _=_;rw[T.o,b3];simp);clear W;go_wp2;exact yS (v:=.tuple #[.slice none 0 0,.int .u32 (mE st.N),.bool false,()]) (by simp[results,ux,go_sem,z.o]) rfl (zu (zt ⟨M.o,f.o,rfl,aQ.o⟩))
   have b3:(ts==sq)=true:=(by simpa using W);have b4:(ts != sq)=false:=(by simp[bne,b3]);have ad:=Lib.hid (gC (hB (sec st.N (6+k)) 5) (hB (sec st.N (6+k)) 6) (hB (sec st.N (6+k)) 7) (hB (sec st.N (6+k)) 8) gt 5 59 (d-5) (by omega) w4 (u.o 5 (by omega)) (u.o 6 (by omega)) (u.o 7 (by omega)) (u.o 8 (by omega)));rw[aR.o]at ad;clear W;go_wp2_with fail
   refine ad.o.mono ?_;rintro e w5 ⟨rfl,ap⟩;have an:=Lib.hid (Below.step aQ.o ap);have Z:=Lib.hid (bA.o.below ap);have aZ:=Lib.hid (YK u15 E w5 Z.o.at (by omega));rw[I.o,a4.o]at aZ;clear ap;go_wp2_with fail
   refine aZ.o.mono ?_;rintro e w6 ⟨rfl,ak⟩;have a7:=Lib.hid (Below.step an.o ak);have bu:=Lib.hid (Z.o.below ak);clear ak;by_cases U:tz=sw;case neg=>
    have b5:(tz==sw)=false:=(by simpa using U);have b6:(tz != sw)=true:=(by simp[bne,b5]);have f:Hid (qT st.N=false):=(by show _=_;rw[T.o,b5];simp);clear U;go_wp2;exact yS (v:=.tuple #[.slice none 0 0,.int .u32 (mE st.N),.bool false,()]) (by simp[results,ux,go_sem,z.o]) rfl (zu (zt ⟨M.o,f.o,rfl,a7.o⟩))
   have b5:(tz==sw)=true:=(by simpa using U);have b6:(tz != sw)=false:=(by simp[bne,b5]);have f:Hid (qT st.N=true):=(by show _=_;rw[T.o,B,b3,b5];rfl);clear U;go_wp2;refine yS (v:=.tuple #[u15,.int .u32 (mE st.N),.bool true,()]) (by simp[results,ux,go_sem,z.o]) rfl (zu (zu ⟨M.o,f.o,u15,E,rfl,by rw[Hn.o];exact I.o,?_,a7.o⟩));obtain⟨o1,o2⟩:=bu.o;refine⟨?_,o2⟩;obtain⟨e1,h|⟨g',aD,a6,bz,bm,r'⟩⟩:=o1
   .exact⟨e1,zt h⟩
   .exact⟨e1,zu ⟨g',aD,a6,bz,zr C.o.size bm,r'⟩⟩
open Go.Maps
def RV (v:Value):Option (DataW Value×List MemPlace):=some (.held v,[])
def keyL (n:Nat):Lit:=.int .i64 (n:Int)
def mapD (E:List Rq):DataW Value:=E.foldl (fun D x=>D.put (keyL x.n) (.held x.v)) (.map [])
def wrs (E:List Rq):List Wr:=E.map fun x=>(x.n,x.D)
theorem Zo (E:List Rq) (x:Rq):mapD (E++[x])=(mapD E).put (keyL x.n) (.held x.v):=by unfold mapD;rw[xF];rfl
theorem i7 (E:List Rq) (x:Rq):wrs (E++[x])=wrs E++[(x.n,x.D)]:=by simp[wrs]
theorem Vr (n:Nat):WideAt.IsKeyLit (keyL n):=by unfold keyL;trivial
theorem LF {a:Nat} (h:keyL a=keyL b):a=b:=by unfold keyL at h;injection h with _ h;omega
structure ks (E:List Rq):Prop where
 im:IsMap (mapD E)
 back:∀kl,has (mapD E) kl=true->∃x∈E,kl=keyL x.n/\(∀z,(mapD E).atKey kl z=.held x.v)/\ss (wrs E) x.n=some x.D
 there:∀n,has (mapD E) (keyL n)=(ss (wrs E) n).isSome
theorem Ns (h:ks E) (x:Rq):ks (E++[x]):=by
 refine⟨?_,?_,?_⟩
 .rw[Zo];exact h.im.put _ _
 .intro d a;rw[Zo]at a;by_cases e:d=keyL x.n
  .subst e;refine⟨x,by simp,rfl,fun z=>?_,?_⟩
   .rw[Zo];exact atKey_put_same h.im (Vr _) _ _
   .rw[i7,VU,ze rfl]
  .rw[has_put_other e]at a;obtain⟨y,f,c,g,i⟩:=h.back d a;refine⟨y,by simp[f],c,fun z=>?_,?_⟩
   .rw[Zo,atKey_put_other e];exact g z
   .rw[i7,VU,zb (fun b=>e (by rw[c,<-b]))];exact i
 .intro n;rw[Zo,i7,VU];by_cases e:x.n=n
  .subst e;rw[has_put_same h.im (Vr _),ze rfl];rfl
  .rw[has_put_other (fun b=>e (LF b).symm),zb e];exact h.there n
theorem Pw (E:List Rq):ks E:=by
 have a:∀k,k<=E.length->ks (E.take k):=by
  intro k
  induction k with
  | zero=>intro _;exact⟨isMap_empty,fun d b=>by simp[mapD,has]at b,fun n=>rfl⟩
  | succ k c=>
   intro b;rw[<-zY (show k<E.length by omega)];exact Ns (c (by omega)) _
 have:=a E.length zL
 rwa [xN]at this
def New64c (D:List Int) (w:World) (v:Value) (w':World):Prop:=
 ∃g cap cur,v=.slice (some ⟨g,0,none⟩) 64 cap/\(w.heap.size<=g/\64<=cap)/\w'.heap[g]?=some (.cells cur 5)/\cur.toList.take 64=u8s D/\Below w w w'
theorem Qe (v:Value) (D:List Int) (w:World) (h:vC w v D) (l:D.length=64):Calls prog 87 #[v] w fun e w'=>∃v',e=.returned v'/\New64c D w v' w':=
 (jB v D w h (by omega) (by omega)).mono fun e w' ⟨v',d,g,b,a,f,c,i,k,j⟩=>⟨v',d,g,b,a,by rw[f,l],⟨c.1,by rw[<-l];exact c.2⟩,i,by rw[<-l];exact k,j⟩
structure pX (R:List Wr) (base:Nat) (w:World) (left:Lit->Bool) (O:List Rk):Prop where
 el:∀x∈O,x.1<256/\∃D cur,ss R x.1=some D/\D.length=64/\(base<=x.2.1/\64<=x.2.2)/\w.heap[x.2.1]?=some (.cells cur 5)/\cur.toList.take 64=u8s D
 nd:(O.map fun x=>x.1).Nodup
 all:∀n D,ss R n=some D->left (keyL n)=true\/n∈O.map fun x=>x.1
 out:∀x∈O,left (keyL x.1)=false
theorem pX.keep (h:pX R base w left O) (l:∀i c,base<=i->w.heap[i]?=some (.cells c 5)->w'.heap[i]?=w.heap[i]?):pX R base w' left O:=
 ⟨fun x k=>by obtain⟨g,D,a,f,j,b,d,e⟩:=h.el x k;exact⟨g,D,a,f,j,b,(l _ _ b.1 d).trans d,e⟩,h.nd,h.all,h.out⟩
theorem pX.start (R:List Wr) (c:Nat) (w:World) (left:Lit->Bool) (h:∀n D,ss R n=some D->left (keyL n)=true):pX R c w left []:=
 ⟨fun x a=>by simp at a,by simp,fun n D b=>zt (h n D b),fun x a=>by simp at a⟩
theorem pX.step (h:pX R base w left O) (n g c:Nat) (D:List Int) (cur:Array Value) (q:left (keyL n)=true) (r:n<256) (s:ss R n=some D) (p:D.length=64) (t:base<=g/\64<=c)
 (u:w.heap[g]?=some (.cells cur 5)) (v:cur.toList.take 64=u8s D):pX R base w (fun z=>left z&&!z.sameKey (keyL n)) (O++[(n,g,c)]):=by
 have f:(keyL n).sameKey (keyL n)=true:=WideAt.sameKey_self (Vr n);refine⟨fun x d=>?_,?_,fun m E j=>?_,fun x d=>?_⟩
 .rcases yv.1 d with d|d
  .exact h.el x d
  .simp at d;subst d;exact⟨r,D,cur,s,p,t,u,v⟩
 .rw[yB,wZ];refine⟨h.nd,by simp,fun a k b l e=>?_⟩;simp at l;obtain⟨x,d,rfl⟩:=zV.1 k;have:=h.out x d;rw[show x.1=n by omega,q]at this;cases this
 .rcases h.all m E j with i|i
  .by_cases e:m=n
   .subst e;exact zu (by simp)
   .refine zt ?_;have:(keyL m).sameKey (keyL n)=false:=sameKey_ne fun o=>e (LF o);simp[i,this]
  .exact zu (by rw[yB,yv];exact zt i)
 .rcases yv.1 d with d|d
  .simp[h.out x d]
  .simp at d;subst d;simp[f]
theorem ka: prog.underlying 161=some (.slice 165):=by kernel_rfl
theorem kV: (prog.info? 165).map (fun i=>(i.zero,i.size,i.bytes))=some (some (.agg #[(),.slice none 0 0,.bool false]),3,40):=by kernel_rfl
theorem Z9: prog.underlying 98=some (.map 3 23):=by kernel_rfl
theorem gW: Keyed prog 3:=int_keyed (q:=.i64) (by kernel_rfl)
theorem ic (n:Nat) (h:n<256):(Lit.int .i64 (n:Int)).wf=true:=by simp[Lit.wf,IntKind.min,IntKind.max,IntKind.signed,IntKind.bits];omega
def WJ : Prop:=∀(gh h base:Nat) (v:Value) (O:List Rk) (W:World),h<256->W.ownsRow base 165 3 v O.length (O.flatMap encK)->W.heap[gh]?=some (.cells #[h] 3)->O.length<=1000000 ->
 Calls prog 208 #[v,.func (.func 209) #[] #[(gh,())]] W fun e w'=>e=.returned (.tuple #[]) /\
  ∃O':List Rk,O'.Perm O/\O'.Pairwise (fun a b=>farN h (a.1%256)<=farN h (b.1%256))/\w'.ownsRow base 165 3 v O'.length (O'.flatMap encK)/\W.grownBy w' v.ownBlock
def toRq (R:List Wr) (x:Rk):Rq:=⟨x.1,.slice (some ⟨x.2.1,0,none⟩) 64 x.2.2,(ss R x.1).getD [],false⟩
theorem Jb (h:∀x∈O,x.1<256):uU (O.map (toRq R))=O.flatMap encK:=by
 induction O with
 | nil=>rfl
 | cons x O a=>
  rw[yI,J0,xA,a fun y b=>h y (by simp[b])]
  congr 1
  show [_,_,_]=[_,_,_];rw[vx (h x (by simp))];rfl
theorem QD:(O.map (toRq R)).map rab=emit (O.map fun x=>(x.1,(ss R x.1).getD [])):=by unfold emit;rw[vB,vB];rfl
theorem SH {h:Nat} {O':List Rk} (u:h<256) (_hR:∀n D,ss R n=some D->n<256) (s:pX R base w left O) (v:∀kl,left kl=false) (t:O'.Perm O) (z:O'.Pairwise fun a b=>farN h (a.1%256)<=farN h (b.1%256)):
 (O'.map fun x=>(x.1,(ss R x.1).getD []))=tO R h:=by
 have f:∀x∈O',x.1<256:=fun x o=>(s.el x (t.mem_iff.1 o)).1;have k:(O'.map fun x=>x.1).Nodup:=(t.map fun x=>x.1).nodup_iff.2 s.nd;refine Pa u ?_ fun x=>?_
 .rw[wh];rw[List.Nodup,wh]at k;have e:=List.Pairwise.and z k;refine e.imp_of_mem ?_;intro a b r p g;have j:=f a r;have c:=f b p;have d:=g.1;rw[vx j,vx c]at d;show farN h a.1<farN h b.1;rcases Nat.lt_or_eq_of_le d with i|i
  .exact i
  .exact yb (To u j c i) g.2
 .constructor
  .intro o;obtain⟨y,m,rfl⟩:=zV.1 o;obtain⟨j,D,q,c,_⟩:=s.el y (t.mem_iff.1 m);exact⟨j,by rw[c];rfl⟩
  .rintro ⟨j,c⟩;rcases s.all x.1 x.2 c with d|d
   .rw[v]at d;cases d
   .have i:=(t.map fun x=>x.1).mem_iff.2 d;obtain⟨y,m,l⟩:=zV.1 i;refine zV.2 ⟨y,m,?_⟩;rw[l,c];rfl
theorem U9 (h:∀x∈E,x.n<256):∀n D,ss (wrs E) n=some D->n<256:=by
 intro n D b;obtain⟨x,a,e⟩:=zV.1 (WS _ n D b);have:=h x a;have c:x.n=n:=by injection e
 omega
theorem Nh {es:Array MapEntry} (h:w.ownsRow base e size v n xs) (j:w.heap[b]?=some (.map es c)):v.ownBlock≠some b:=by
 rcases h.2 with⟨rfl,_⟩|⟨i,g,d,rfl,_,a,_⟩
 .simp[Value.ownBlock]
 .intro f;have:i=b:=by simpa[Value.ownBlock]using f
  subst this;rw[j]at a;cases a
theorem Ms {m:Option Nat} {s:Nat} {sn:Array Nat} (h:w.ownsRow base e size v n xs) (j:w.heap[b]?=some (.mapIter m s sn c)):v.ownBlock≠some b:=by
 rcases h.2 with⟨rfl,_⟩|⟨i,g,d,rfl,_,a,_⟩
 .simp[Value.ownBlock]
 .intro f;have:i=b:=by simpa[Value.ownBlock]using f
  subst this;rw[j]at a;cases a
theorem XJ {D:DataW Value} (h:w.ownsRow base e size v n xs) (j:w.ranges prog 3 RV b r m D left cnt):some b≠v.ownBlock/\some r≠v.ownBlock:=by obtain⟨g,c,a,d,i,f,_,_,_,j,_⟩:=j;exact⟨fun e=>Nh h f e.symm,fun e=>Ms h j e.symm⟩
theorem Ld {D:DataW Value} (k:w.ranges prog 3 RV b r m D left cnt):∃o,w.heap[r]?=some o/\∀c t f,o≠.cells c t f:=by obtain⟨g,d,a,e,j,i,_,_,_,k,_⟩:=k;exact⟨_,k,fun c t f h=>by cases h⟩
theorem XO (h:pX R base w left O):O.length<=256:=by
 have:=IF (B:=List.range 256) h.nd fun n b=>by obtain⟨x,a,rfl⟩:=zV.1 b;exact yT.2 (h.el x a).1
 simpa using this
theorem MJ (O:List Rk) (x:Rk):(O++[x]).flatMap encK=O.flatMap encK++encK x:=by simp
theorem Tb: ∀(key:Value) (kl:Lit),keyOf prog 3 key=some kl->∃x:Int,key=.int .i64 x:=fun key kl h=>by obtain⟨x,a,_⟩:=Maps.keyOf_int_inv (q:=.i64) (by kernel_rfl) h;exact⟨x,a⟩
theorem IM {b:World} (h:Below a a b):a.grownBy b none:=⟨h.os,h.tape,h.output,h.size,fun i c _=>h.block i c⟩
theorem VO {B:Nat} (h:Below B a w) (n:Nat):Below B a (w.drewN n):=⟨h.os,h.tape,h.output,h.size,h.block⟩
def Wt (R:List Wr) (h:Nat) (w:World) (e:Ending) (w':World):Prop:=
 ∃v',e=.returned (.tuple #[v',.int .i64 (o8 R h:Int)])/\qc w' w v' (emit (tO R h))/\Below w w w'
theorem YX (
 ag:WJ) (v:Value) (E:List Rq) (h:Nat) (hh:h<256) (w:World) (hv:xT w v 3 E.length (uU E)) (hE:∀x∈E,x.b=false/\x.n<256/\vC w x.v x.D/\x.D.length=64) (hl:E.length<=1000):
 Calls prog 169 #[v,h] w (Wt (wrs E) h w):=by
 have aR:Hid WJ:=ag;clear ag;obtain⟨N,HN⟩:=zD E.length;obtain⟨p,cp,rfl,HP⟩:∃p cp,v=.slice p N cp/\Hid (0<N->∃g o,p=some ⟨g,o,none⟩/\∀(j:Nat) (x:Value),(uU E)[j]?=some x->w.cell? ⟨g,o+j,none⟩=some x):=by
  rw[<-HN.o];obtain⟨_,⟨h0,a0,c0,rfl⟩|⟨g,o,ae,rfl,hc⟩⟩:=hv
  .exact⟨a0,c0,by rw[h0],fun h=>by omega⟩
  .exact⟨_,ae,rfl,fun _=>⟨g,o,rfl,hc⟩⟩
 rw[HN.o]at hl;have HE:=Lib.hid hE;clear hv hE;obtain⟨i0,bu,bf,b0,aJ⟩:=xp kV;have HI:=Lib.hid bu;have cj:=Lib.hid bf;have ck:=Lib.hid b0;have bN:=Lib.hid aJ;clear bu bf b0 aJ;have bG:=Lib.hid (zT w (.cells #[h] 3));have bE:Hid (((w.alloc (.cells #[h] 3)).alloc (.map #[] 0)).ownsMap prog 3 RV (w.heap.size+1) 0 (.map [])):=by have:=World.ownsMap_made (w.alloc (.cells #[h] 3)) prog 3 RV;rw[show (w.alloc (.cells #[h] 3)).heap.size=w.heap.size+1 by simp]at this;exact this
 have cg:=@run_makeMap prog;go_enter func169,ntmps169;go_wp2;clear cg;go_loopw [8,15] (fun _ i wr=>∃k:Nat,k<=N/\i=.int .i64 k/\Hid (wr.ownsMap prog 3 RV (w.heap.size+1) k (mapD (E.take k)))/\Hid (wr.heap[w.heap.size]?=some (.cells #[h] 3))/\Below w w wr) (fun _ i _=>N-(intOf i).toNat);case atStart =>refine⟨0,ye _,rfl,bE,tf bG.o _,(zB.alloc zL _).alloc (by simp) _⟩
 case round=>
  obtain⟨k,hk,rfl,HM,HH,HB⟩:=hrel;by_cases be:k<N
  .obtain⟨g,o,rfl,hc⟩:=HP.o (by omega);have C:k<E.length:=(by rw[HN.o];exact be);obtain⟨e0,e1,e2⟩:=fJ E k C;obtain⟨x,Hx⟩:=zD (E[k]);rw[Hx.o]at e0 e1 e2;obtain⟨bq,A,L,B⟩:=HE.o x (by rw[<-Hx.o];exact zz C);obtain⟨gx,ox,cx,Q⟩:∃gx ox cx,x.v=.slice (some ⟨gx,ox,none⟩) 64 cx:=by
    obtain⟨_,⟨h0,_⟩|⟨g,o,ae,G,_⟩⟩:=L
    .omega
    .exact⟨g,o,ae,by rw[G,B]⟩
   rw[Q]at e1;rw[bq]at e2;have I:∀{x:Addr} {y:Value},w.cell? x=some y->wr.cell? x=some y:=fun h=>(HB.cell (zG h)).trans h;have c0:=I (hc _ _ e0);have c1:=I (hc _ _ e1);have c2:=I (hc _ _ e2);rw[<-yA]at c1 c2;obtain⟨f,s⟩:=zD x.n;rw[s.o]at c0 A;have HT:Hid (mapD (E.take (k+1))=(mapD (E.take k)).put (keyL f) (.held (.slice (some (gx,ox)) 64 cx))):=(by show _=_;rw[<-zY C,Zo,Hx.o,s.o,Q]);have cz:(k:Int)<(N:Int):=(by omega);have c5:g<wr.heap.size:=zG c0;have c3:¬g=wr.heap.size:=(by omega);have cc:=HM.o.lt;have cC:w.heap.size<wr.heap.size:=(by omega);have bL:Hid ((wr.alloc (.cells #[f,.slice (some (gx,ox)) 64 cx,.bool false] 165)).ownsMap prog 3 RV (w.heap.size+1) k (mapD (E.take k))):=HM.o.alloc _;have aY:Hid (Below w w (wr.alloc (.cells #[f,.slice (some (gx,ox)) 64 cx,.bool false] 165))):=HB.alloc HB.size _;have b4:Hid ((wr.alloc (.cells #[f,.slice (some (gx,ox)) 64 cx,.bool false] 165)).heap[w.heap.size]?=some (.cells #[h] 3)):=tf HH.o _;have bv:Hid (keyOf prog 3 (.int .i64 (f:Int))=some (keyL f)):=keyOf_int_mk (by kernel_rfl) (ic f A);clear hc e0 e1 e2 I Q L B cc bq;go_wp2_with (at_mapUpdate;refine qE _ rfl _ _ _ 98 rfl 3 23 gW Z9 RV (w.heap.size+1) k (mapD (E.take k)) rfl bL.o (by unfold maxLen;omega) _ _ (keyL f) rfl rfl bv.o _ [] rfl ?_;intro w1 X m)
   have cm:Hid (w1.ownsMap prog 3 RV (w.heap.size+1) (k+1) (mapD (E.take (k+1)))):=(by show World.ownsMap _ _ _ _ _ _ _;rw[HT.o];exact X);have ab:Hid (Below w w w1):=aY.o.grown m aY.o.size (by intro r hr;simp at hr;omega);have Z:Hid (w1.heap[w.heap.size]?=some (.cells #[h] 3)):=(m.block _ (xL b4.o) (by simp)).trans b4.o;clear X m c0 c1 c2;go_wp2;go_roundw;case rel=>exact⟨k+1,by omega,by go_num,cm,Z,ab.o⟩
   case measure=>simp[intOf];omega
  .have HT:Hid (E.take k=E):=zv (by rw[HN.o];omega);rw[HT.o]at HM;obtain⟨r,Hr⟩:=zD wr.heap.size;have cE:w.heap.size<r:=(by rw[<-Hr.o];exact xL HH.o);go_wp2_with (at_range;refine wpList_range_own _ rfl _ 98 rfl 3 23 gW Z9 RV (w.heap.size+1) k (mapD E) rfl HM.o ?_;intro w0 af a9 bg)
   rw[Hr.o]at af bg ⊢;have bH:=Lib.hid af;have bX:Hid (Below w w w0):=HB.grown a9 HB.size (by simp);have bT:Hid (w0.heap[w.heap.size]?=some (.cells #[h] 3)):=(a9.block _ (xL HH.o) (by simp)).trans HH.o;have bi:=Lib.hid (Pw E);have aC:=Lib.hid (U9 fun x hx=>(HE.o x hx).2.1);clear af a9 bg HB be hk
   go_frame
   go_loopw [9] (fun v ws=>∃(l:Lit->Bool) (aI:Nat) (O:List Rk),Hid (ws.ranges prog 3 RV (w.heap.size+1) r k (mapD E) l aI)/\Hid (ws.ownsRow (w.heap.size+1) 165 3 v O.length (O.flatMap encK))/\Hid (pX (wrs E) (w.heap.size+1) ws l O)/\Hid (ws.heap[w.heap.size]?=some (.cells #[h] 3))/\Hid (Below w w ws)) (fun _ ws=>ws.rangeLeft (w.heap.size+1) r)
   case atStart =>exact⟨_,_,[],bH,yW _ _ _ _,pX.start _ _ _ _ (fun n D hn=>by rw[bi.o.there n,hn];rfl),bT,bX⟩
   case round=>
    obtain⟨l,aI,O,HR,HO,Y,P,ah⟩:=hrel;go_wp2_with (at_next;refine wpList_next_ranges (α:=Int) (β:=Value) _ rfl _ rfl 3 gW RV (fun x=>.int .i64 x) (fun c=>c) Tb (fun v y _=>⟨v,rfl⟩) (w.heap.size+1) r k (mapD E) l aI rfl HR.o ?_ ?_)
    .intro _ aX;have bJ:=Lib.hid aX;clear aX;have H:=XO Y.o;have bS:=Lib.hid (aR.o w h (w.heap.size+1) u9 O _ hh HO.o P.o (by omega));go_wp2_with fail
     refine bS.o.mono ?_;rintro e w5 ⟨rfl,O',hp,hs,a8,ar⟩;have aW:u9.ownBlock≠some w.heap.size:=rW HO.o P.o (by decide);have ap:Hid (w5.heap[w.heap.size]?=some (.cells #[h] 3)):=(ar.block _ (xL P.o) (fun e=>aW e.symm)).trans P.o;have S:pX (wrs E) (w.heap.size+1) w5 l O:=Y.o.keep fun i c _ J=>ar.block i (xL J) (fun e=>rW HO.o J (by decide) e.symm);have aa:=SH hh aC.o Y.o bJ.o hp hs;have ac:∀x∈O',x.1<256:=fun x hx=>(S.el x (hp.mem_iff.1 hx)).1;have a6:qc w5 (w.heap.size+1) u9 (emit (tO (wrs E) h)):=(by refine⟨O'.map (toRq (wrs E)),by rw[QD,aa],by rw[Jb ac,yw];exact a8,fun x hx=>?_⟩;obtain⟨y,hy,rfl⟩:=zV.1 hx;obtain⟨G,D,bK,h2,h3,h4,h5,h6⟩:=S.el y (hp.mem_iff.1 hy);have e:(toRq (wrs E) y).D=D:=(by show (ss (wrs E) y.1).getD []=D;rw[h2];rfl);exact zu ⟨rfl,G,by rw[e];exact h3,y.2.1,y.2.2,bK,rfl,h4,h5,by rw[e];exact h6⟩);have a1:=Lib.hid a6;have bz:Hid (Below w w w5):=ah.o.grown ar ah.o.size (by intro q hq;have:=(HO.o.lt q hq).1;omega);obtain⟨q5,ce,an,aQ⟩:=tR a8;have aM:O'.length<=256:=(by rw[hp.length_eq];exact H);have a5:=Lib.hid aa;have ay:=Lib.hid ac;obtain⟨M,aj⟩:=zD O'.length;rw[aj.o]at an aM aQ;have bQ:=Lib.hid aQ;have c9:=xL ap.o;clear hp hs a8 ar aW S aa ac a6 aQ;by_cases aF:M=0
     .have ai:Hid (o8 (wrs E) h=h):=(by show _=_;unfold o8;rw[<-a5.o];have:O'=[]:=yG.1 (by rw[aj.o];exact aF);rw[this];rfl);subst aF;have k0:=xR w5 _ 0 _ _ _ ap.o;subst an;go_wp2
      go_quiet (fail)
      go_wp2;go_ret2;unfold Wt;rw[ai.o];refine⟨_,rfl,(a1.o.below (VO zB _)).mono (by omega),VO bz.o _⟩
     .obtain⟨g5,rfl,_,bw⟩:=bQ.o (by omega);have aG:M-1<O'.length:=(by rw[aj.o];omega);obtain⟨x,Hx⟩:=zD (O'[M-1]);have aN:x.1<256:=ay.o x (by rw[<-Hx.o];exact zz aG);have bF:w5.cell? (g5,(M-1)*3)=some (.int .i64 (x.1:Int)):=bw _ _ (by rw[<-Jb (R:=wrs E) ay.o];have:=(fJ (O'.map (toRq (wrs E))) (M-1) (by rw[yw];exact aG)).1;rw[this,uH,Hx.o];rfl);have ai:Hid (o8 (wrs E) h=x.1):=(by show _=_;unfold o8;rw[<-a5.o,List.getLast?_map,List.getLast?_eq_getElem?,aj.o,zf aG,Hx.o];rfl);obtain⟨f,s⟩:=zD x.1;rw[s.o]at bF aN ai;have k0:=xR w5 _ 0 _ _ _ ap.o;have z0:w5.frozen? (w.heap.size,0)=false:=(by simp[World.frozen?,ap.o]);have cn:Hid (qc (w5.setCell (w.heap.size,0) (.int .i64 (f:Int))) (w.heap.size+1) (g5,0,M,ce) (emit (tO (wrs E) h))):=(by have G:=a1.o;rw[an]at G;exact G.keeps (F:=fun i=>i=w.heap.size) (yK.setCell (by rfl) _) (fun i J _ e=>by omega));have cl:Hid (Below w w (w5.setCell (w.heap.size,0) (.int .i64 (f:Int)))):=bz.o.setCell zL _;subst an;have p1:=zW ((M:Int)-1);have p2:((M:Int)-1).toNat=M-1:=(by omega);have p3:0<=(M:Int)-1:=(by omega);have p4:(M:Int)-1<(M:Int):=(by omega);have p5:1<=(M:Int):=(by omega);clear bw aF;go_wp2
      go_quiet (fail)
      go_wp2;go_ret2;unfold Wt;rw[ai.o];refine⟨_,rfl,(cn.o.below (VO zB _)).mono (by omega),VO cl.o _⟩
    .intro x c kl y ps w1 az a2 bc aL aO a3 aw W cd aP;obtain⟨x',bW,rfl,_⟩:=Maps.keyOf_int_inv (q:=.i64) (by kernel_rfl) a2;have bR:x'=x:=(by injection bW with _ h;exact h.symm);subst bR;have hy:y=.held c:=(by unfold RV at aL;injection aL with h;injection h with h _;exact h.symm);subst hy;obtain⟨rq,bl,C,ax,ad⟩:=bi.o.back _ (has_true_of_atKey aO);have A:x'=(rq.n:Int):=(by unfold keyL at C;injection C with _ h);have bU:c=rq.v:=(by have G:=aO .nil;rw[ax .nil]at G;injection G with G;exact G.symm);subst A bU;obtain⟨_,A,L,B⟩:=HE.o rq bl;obtain⟨gx,ox,cx,Q⟩:∃gx ox cx,rq.v=.slice (some ⟨gx,ox,none⟩) 64 cx:=by
      obtain⟨_,⟨h0,_⟩|⟨g,o,ae,G,_⟩⟩:=L
      .omega
      .exact⟨g,o,ae,by rw[G,B]⟩
     have bj:=Lib.hid a3;obtain⟨ob,bh,a7⟩:=Ld HR.o;have ab:Hid (Below w w w1):=ah.o.grown W ah.o.size (by intro q hq;simp at hq;omega);have bb:Hid (w1.ownsRow (w.heap.size+1) 165 3 u9 O.length (O.flatMap encK)):=oT HO.o fun b hb=>W.block b (HO.o.lt b hb).2 (by rw[<-hb];exact fun e=>(XJ HO.o HR.o).2 e.symm);have bs:Hid (pX (wrs E) (w.heap.size+1) w1 l O):=Y.o.keep fun i c _ J=>W.block i (xL J) (by intro e;injection e with e;subst e;rw[bh]at J;injection J with J;exact a7 _ _ _ J);have Z:Hid (w1.heap[w.heap.size]?=some (.cells #[h] 3)):=(W.block _ (xL P.o) (by intro e;injection e with e;omega)).trans P.o;have b5:=Lib.hid (Qe rq.v rq.D w1 (xT.below L ab.o) B);have H:=XO Y.o;have ca:=Lib.hid bc;have aA:=Lib.hid ad;have bI:=Lib.hid B;have bM:=Lib.hid aw;rw[Q]at aP b5;obtain⟨f,s⟩:=zD rq.n;rw[s.o]at aP A;obtain⟨ON,aZ⟩:=zD O.length;rw[aZ.o]at bb H;clear a2 bc aL aO a3 aw W cd C ax ad L B Q bh a7 bl;go_wp2_with (first
      | (
       go_at_call 87;refine b5.o.mono ?_;rintro e w2 ⟨v2,rfl,t,a,a4,rfl,b2,bp,br,K⟩
       have V:Hid (∀o,(w2.alloc o).ownsRow (w.heap.size+1) 165 3 u9 ON (O.flatMap encK)):=fun o=>(th bb.o K).alloc o;have bk:Hid (Below w w w2):=ab.o.trans (K.mono ab.o.size);have aJ:w.heap.size<w2.heap.size:=zm (xL Z.o) K.size;have ci:Hid (w2.heap[w.heap.size]?=some (.cells #[h] 3)):=we K Z.o;have aD:=Lib.hid K;have cb:=Lib.hid (And.intro b2 (And.intro bp br));clear K b2 bp br)
      | (at_builtin;refine yH _ rfl _ _ 161 rfl (w.heap.size+1) 165 i0 (.agg #[(),.slice none 0 0,.bool false]) 3 40 ka HI.o cj.o ck.o bN.o rfl (by decide) _ _ _ rfl (V.o _) ⟨w2.heap.size,0,none⟩ 1 1 [.int .i64 (f:Int),.slice (some ⟨t,0,none⟩) 64 a,.bool false] rfl rfl (fun j u hu=>Zn _ #[f,.slice (some ⟨t,0,none⟩) 64 a,.bool false] _ j u hu) (fun u hu=>by simp at hu;rcases hu with rfl|rfl|rfl<;>rfl) (by unfold maxLen;omega) (by omega) (by simp;omega) ?_;intro v3 w3 U d _))
     have HG:=cb.o;have bo:Hid (w3.ownsRow (w.heap.size+1) 165 3 v3 (O++[(f,t,a)]).length ((O++[(f,t,a)]).flatMap encK)):=(by show World.ownsRow _ _ _ _ _ _ _;rw[MJ,zl,aZ.o];have e:encK (f,t,a)=[.int .i64 (f:Int),.slice (some ⟨t,0,none⟩) 64 a,.bool false]:=(by show [_,_,_]=_;rw[vx A]);rw[e];exact U);have T:=XJ (V.o (.cells #[f,.slice (some ⟨t,0,none⟩) 64 a,.bool false] 165)) ((bj.o.kept (IM aD.o) (by simp) (by simp)).alloc (.cells #[f,.slice (some ⟨t,0,none⟩) 64 a,.bool false] 165));have bn:Hid (w3.ranges prog 3 RV (w.heap.size+1) r k (mapD E) (fun z=>l z&&!z.sameKey (keyL f)) az):=(by have:=((bj.o.kept (IM aD.o) (by simp) (by simp)).alloc (.cells #[f,.slice (some ⟨t,0,none⟩) 64 a,.bool false] 165)).kept d T.1 T.2;rw[<-s.o];exact this);have aH:∀i c,(w2.alloc (.cells #[f,.slice (some ⟨t,0,none⟩) 64 a,.bool false] 165)).heap[i]?=some (.cells c 5)->some i≠u9.ownBlock:=fun i c J e=>rW (V.o _) J (by decide) e.symm;have b1:Hid (pX (wrs E) (w.heap.size+1) w3 (fun z=>l z&&!z.sameKey (keyL f)) (O++[(f,t,a)])):=(by have G:pX (wrs E) (w.heap.size+1) w3 l O:=bs.o.keep fun i c _ J=>(by have h2:=we aD.o J;have h3:=tf h2 (.cells #[f,.slice (some ⟨t,0,none⟩) 64 a,.bool false] 165);exact (d.block i (xL h3) (aH i c h3)).trans (h3.trans J.symm));have h4:=tf HG.2.1 (.cells #[f,.slice (some ⟨t,0,none⟩) 64 a,.bool false] 165);have c4:=xL Z.o;exact G.step f t a rq.D a4 (by rw[<-s.o];exact ca.o) A (by rw[<-s.o];exact aA.o) bI.o ⟨by have:=HG.1.1;omega,HG.1.2⟩ ((d.block t (xL h4) (aH t a4 h4)).trans h4) HG.2.2);have bO:Hid (w3.heap[w.heap.size]?=some (.cells #[h] 3)):=(by have h4:=tf ci.o (.cells #[f,.slice (some ⟨t,0,none⟩) 64 a,.bool false] 165);exact (d.block _ (xL h4) (fun e=>rW (V.o _) h4 (by decide) e.symm)).trans h4);have bZ:Hid (Below w w w3):=(bk.o.alloc bk.o.size _).grown d (by simp;omega) (by intro q hq;have:=((V.o (.cells #[f,.slice (some ⟨t,0,none⟩) 64 a,.bool false] 165)).lt q hq).1;omega);clear U d T aH aP HG;go_wp2;go_roundw;case rel=>exact⟨_,az,_,bn,bo,b1,bO,bZ⟩
     case measure=>rw[bn.o.left_eq,HR.o.left_eq];exact bM.o
end Go.Proofs.YtakfhadmokoikaaGreatDoor
namespace Go.Proofs.YtakfhadmokoikaaGreatDoor
open Go.Proofs.Tryz Go.RowKit
variable {E:List Rq} {a:Option Addr} {cap k n:Nat} {v:Value} {w:World}
def rx (w:World) (v:Value) (E:List Rq):Prop:=∃a cap,v=.slice a E.length cap/\E.length<=cap/\cap<=maxLen/\(0<E.length->∃g o,a=some ⟨g,o,none⟩/\∀(j:Nat) (x:Value),(uU E)[j]?=some x->w.cell? ⟨g,o+j,none⟩=some x)
theorem rx.row (h:rx w v E):xT w v 3 E.length (uU E):=by
 obtain⟨a,b,rfl,i,f,c⟩:=h;refine⟨WV E,?_⟩;rcases vh E.length with e|e
 .exact zt ⟨e,a,b,by rw[e]⟩
 .obtain⟨g,o,rfl,d⟩:=c e;exact zu ⟨g,o,b,rfl,d⟩
theorem rx.below {w':World} (h:rx w v E) (l:Below w w w'):rx w' v E:=by obtain⟨a,b,rfl,f,e,k⟩:=h;refine⟨a,b,rfl,f,e,fun i=>?_⟩;obtain⟨g,o,rfl,c⟩:=k i;exact⟨g,o,rfl,fun j x d=>(l.cell (p:=⟨g,o+j,none⟩) (zG (c j x d))).trans (c j x d)⟩
theorem rx.of_owns {base:Nat} (h:w.ownsRow base 165 3 v E.length (uU E)):rx w v E:=by
 obtain⟨q,i,n,f⟩:=tR h;obtain⟨_,⟨rfl,c⟩|⟨g,b,k,rfl,p,s,o,m,_⟩⟩:=h
 .exact⟨none,0,by rw[c],by omega,by unfold maxLen;omega,fun h=>by omega⟩
 .refine⟨_,b,rfl,o,m,fun c=>?_⟩;obtain⟨r,e,_,d⟩:=f c;injection n with a _ _;rw[e]at a;injection a with a;injection a with a _ _;subst a;exact⟨g,0,rfl,fun j x l=>by rw[yL];exact d j x l⟩
theorem rx.take (h:rx w (a,n,cap) E) (r:k<=n):rx w (a,k,cap) (E.take k):=by
 obtain⟨p,d,e,q,f,l⟩:=h;cases e;have c:(E.take k).length=k:=by rw[zi];omega
 refine⟨a,cap,by rw[c],by rw[c];omega,f,fun i=>?_⟩;rw[c]at i;obtain⟨g,o,rfl,m⟩:=l (by omega);refine⟨g,o,rfl,fun j x b=>m j x ?_⟩;rw[<-(It E k).1,zI]at b;split at b
 .exact b
 .cases b
theorem rx.drop {g o:Nat} (h:rx w (g,o,n,cap) E) (t:k<=n):rx w (g,o+k*3,(n-k),(cap-k)) (E.drop k):=by obtain⟨p,b,d,q,m,i⟩:=h;cases d;have a:(E.drop k).length=E.length-k:=yx;refine⟨_,_,by rw[a],by rw[a];omega,by omega,fun f=>?_⟩;rw[a]at f;obtain⟨r,s,e,l⟩:=i (by omega);cases e;refine⟨g,_,rfl,fun j x c=>?_⟩;rw[<-(It E k).2,yo]at c;rw[yA];exact l _ x c
theorem rx.none (h:cap<=maxLen):rx w (.slice a 0 cap) []:=⟨a,cap,rfl,ye _,h,fun h=>by simp at h⟩
theorem Vd {ops:Array Oper} {rest:List Oper} {o:Oper} {a:Act} {Q:Exit->Act->World->Prop} (aa:o.guard=none) (s x:Operand)
 (ho:o.op=.call {callee:=.builtin .append,args:=#[s,x],argTypes:=#[161,161]}) (v pv:Value) (Y Z:Nat) (O L:List Rb) (hs:a.eval s=v) (hx:a.eval x=pv)
 (hO:qc w Y v O) (hP:qc w Z pv L) (hb:Y<=Z) (ab:Y<=w.heap.size) (ah:O.length+L.length<=1000000)
 (h:∀v' w',qc w' Y v' (O++L)->w.grownBy w' v.ownBlock->wpList prog ops Q rest (a.put o.dst v') w'):wpList prog ops Q (o::rest) a w:=by
 obtain⟨H,q,z,B,C⟩:=xp kV;obtain⟨E,D,r,F⟩:=hO;obtain⟨m,f,I,G⟩:=hP;have U:=iC D;have M:=iC f;have T:=I;obtain⟨_,⟨rfl,J⟩|⟨g,A,R,rfl,V,S,W,X,P,K⟩⟩:=I
 .have N:m=[]:=yG.1 J;subst N;refine wpList_append_own_none aa s x 161 ho Y 165 H 3 ka q v E.length (uU E) hs r hx (h v w ?_ ⟨rfl,rfl,rfl,zL,fun _ _ _=>rfl⟩);refine⟨E,?_,r,F⟩;rw[D];have:L=[]:=by rw[<-f];rfl
  rw[this,xn]
 .refine yH w aa s x 161 ho Y 165 H (.agg #[(),.slice none 0 0,.bool false]) 3 40 ka q z B C rfl (by decide) v E.length (uU E) hs r ⟨g,0,none⟩ m.length A (uU m) hx (WV m) (fun j u t=>?_) (Sw G) (by unfold maxLen;omega) (by omega) ab fun v' w' l d _=>h v' w' ?_ d
  .have n:(⟨g,0,none⟩:Addr).add j=⟨g,j,none⟩:=(by unfold Addr.add;split<;>simp_all);rw[n,zC S];rw[<-K,zI]at t;split at t
   .simpa using t
   .cases t
  .have b:∀(i:Nat) (c:Array Value),w.heap[i]?=some (.cells c 5)->w'.heap[i]?=w.heap[i]? :=fun i c k=>d.block i (xL k) (fun e=>rW r k (by decide) e.symm);refine⟨E++m,by rw[yB,D,f],by rw[zl,Ua];exact l,fun y p=>?_⟩;rcases yv.1 p with p|p
   .exact (F y p).keep fun i c _ k=>b i c k
   .exact ((G y p).mono hb).keep fun i c _ k=>b i c k
theorem OG (h:E.findIdx? (fun x=>x.b)=none):barI E = -1/\(∀x∈E,x.b=false)/\E.map rab=emit (wrs E):=by
 have c:∀x∈E,x.b=false:=fun x a=>by rw[vW]at h;exact h x a
 refine⟨by unfold barI;rw[h],c,?_⟩;unfold emit wrs;rw[vB];refine wW fun x a=>?_;show (x.n,x.D,x.b)=(x.n,x.D,false);rw[c x a]
theorem OE (h:E.findIdx? (fun x=>x.b)=some k):∃hk:k<E.length,barI E=(k:Int)/\(∀x∈E.take k,x.b=false)/\E.map rab=emit (wrs (E.take k))++(E[k].n,E[k].D,true)::(E.drop (k+1)).map rab:=by
 have i:=h;rw[xJ]at h;obtain⟨hk,g,f⟩:=h;have d:∀x∈E.take k,x.b=false:=fun x c=>by
  obtain⟨j,e,rfl⟩:=vn c;rw[nV];have a:j<k:=by rw[zi]at e;omega
  simpa using f j a
 refine⟨hk,by unfold barI;rw[i],d,?_⟩
 conv=>lhs;rw[<-xO k E,xe hk,yB,yI]
 congr 1
 .unfold emit wrs;rw[vB];refine wW fun x c=>?_;show (x.n,x.D,x.b)=(x.n,x.D,false);rw[d x c]
 .congr 1
  show (E[k].n,E[k].D,E[k].b)=_;rw[g]
theorem Xo (P:List Wr):(emit P).length=P.length:=by simp[emit]
theorem ZX (E:List Rq):(wrs E).length=E.length:=by simp[wrs]
theorem XH (h:∀x∈E,RqOk w x) (e:∀x∈E,x.b=false):∀x∈E,x.b=false/\x.n<256/\vC w x.v x.D/\x.D.length=64:=by
 intro x c;have d:=e x c;rcases h x c with⟨a,_⟩|a
 .rw[d]at a;cases a
 .exact a
theorem Jh (w:World) (b:Nat) (h:b<=w.heap.size):qc (w.alloc (.cells #[(),.slice none 0 0,.bool true] 165)) b (.slice (some ⟨w.heap.size,0,none⟩) 1 1) [barR]:=
 ⟨[⟨0,.slice none 0 0,[],true⟩],rfl,⟨rfl,zu ⟨w.heap.size,1,_,rfl,h,zT w _,zL,by unfold maxLen;omega,rfl,rfl⟩⟩,fun x a=>by simp at a;subst a;exact zt ⟨rfl,rfl,rfl,rfl⟩⟩
theorem Ni (h:Nat) (b:h<256):rO [] h []=[]:=by have a:=KB [] h b;exact yG.1 (by simpa using a)
def LX (L:List Rb) (h:Nat) (w:World) (e:Ending) (w':World):Prop:=
 ∃v',e=.returned (.tuple #[v',()])/\qc w' w v' (pM L h)/\Below w w w'
theorem Po (aa:WJ) (v:Value) (E:List Rq) (h:Nat) (hh:h<256) (w:World) (hv:rx w v E) (hE:∀x∈E,RqOk w x) (hl:E.length<=100):
 Calls prog 135 #[v,h] w (LX (E.map rab) h w):=by
 have X:Hid WJ:=aa;clear aa;have HV:=Lib.hid hv;have HE:=Lib.hid hE;have HR:=Lib.hid (fun W (hW:Below w w W)=>Sy v E W (xT.below hv.row hW) (fun x u=>(hE x u).below hW) hl);have b1:decide ((h:Int)<0)=false:=by rw[zJ];omega
 have b2:decide ((256:Int)<=(h:Int))=false:=by rw[zJ];omega
 have b3:¬(256:Int)<=(h:Int):=by omega
 have b4:¬256<=h:=by omega
 clear hv hE;go_enter func135,ntmps135;go_wp2_with fail
 refine (HR.o _ zB).mono ?_;rintro e w1 ⟨rfl,az⟩;have aB:=Lib.hid az;clear az b1 b2 b3 b4;go_wp2;obtain⟨i0,aw,ap,ay,J⟩:=xp kV;have HI:=Lib.hid aw;have bf:=Lib.hid ap;have bg:=Lib.hid ay;have aU:=Lib.hid J;clear aw ap ay J;go_loopw [0,1,7] (fun lv hd o wr=>∃(f:List Rq) (m:Nat) (O:List Rb),Hid (rx w lv f)/\Hid (∀x∈f,x∈E)/\f.length+O.length<=100/\hd=.int .i64 (m:Int)/\m<256/\Hid (qc wr w o O)/\Hid (O++rO [] m (f.map rab)=pM (E.map rab) h)/\Hid (Below w w wr)) (fun lv _ _ _=>match lv with|.slice _ n _=>n|_=>0);case atStart =>exact⟨E,h,[],HV,fun x u=>u,by simp;exact hl,rfl,hh,⟨[],rfl,yW _ _ _ _,fun x u=>by simp at u⟩,rfl,aB⟩
 case round=>
  obtain⟨f,m,O,Q,HS,an,rfl,B,HO,S,HB⟩:=hrel;obtain⟨a,H,a0,aH,ar,ag⟩:=Q.o;obtain⟨n,HN⟩:=zD f.length;rw[HN.o]at a0 aH an ag;subst a0;have a6:=Lib.hid ag;have ba:Hid (H<=maxLen):=ar;unfold maxLen at ar;clear ag;by_cases hn:0<n
  .obtain⟨g,o,rfl,a4⟩:=a6.o hn;clear a4;have ai:Hid (∀x∈f,RqOk w x):=fun x u=>HE.o x (HS.o x u);have a8:=Lib.hid (Qp _ f _ (xT.below Q.o.row HB.o) (fun x u=>(ai.o x u).below HB.o) (by rw[HN.o];omega));have aX:=HB.o.size;go_wp2_with fail
   refine a8.o.mono ?_;rintro e w2 ⟨rfl,ae⟩;have A:Hid (Below w w w2):=Below.step HB.o ae;have ad:Hid (qc w2 w u7 O):=HO.o.below ae;have J:w.heap.size<=w2.heap.size:=A.o.size;clear ae;cases Y:f.findIdx? (fun x=>x.b) with
   | none=>
    obtain⟨N,U,M⟩:=OG Y;have am:=Lib.hid N;have K:=Lib.hid (YX X.o _ f m B w2 (xT.below Q.o.row A.o) (fun x u=>XH (fun y hy=>(ai.o y hy).below A.o) U x u) (by rw[HN.o];omega));unfold Wt at K;have T:=Lib.hid M;clear Y N U M;rw[am.o];have aA:Hid ((emit (tO (wrs f) m)).length<=n):=(by show _<=_;rw[Xo,<-HN.o,<-ZX];exact Zl _ _ B);have aG:=aA.o;have q1:decide ((-1:Int)<0)=true:=(by decide);have q2:0<=(n:Int):=(by omega);have q3:(n:Int)<=(H:Int):=(by omega);have I:Hid ((O++emit (tO (wrs f) m))++rO [] (o8 (wrs f) m) (([]:List Rq).map rab)=pM (E.map rab) h):=(by have p:=S.o;rw[T.o,WZ,xj]at p;show (O++_)++rO [] _ []=_;rw[Ni _ (WF _ _ B),xn];exact p);have Z:=WF (wrs f) m B;clear S T;generalize emit (tO (wrs f) m)=L at *
    generalize o8 (wrs f) m=h3 at *
    by_cases P:H=n;all_goals
     try subst P
     go_wp2_with (first
      | (
       go_at_call 169;refine K.o.mono ?_;rintro e w3 ⟨pv,rfl,s,j⟩
       have R:=Lib.hid s;have D:=Lib.hid (ad.o.below j);have C:Hid (Below w w w3):=Below.step A.o j;have t:=C.o.size;clear s j)
      | (at_builtin;refine Vd rfl _ _ rfl _ _ w.heap.size _ _ _ rfl rfl D.o R.o J t (by omega) ?_;intro v4 w4 d c))
     have F:=Lib.hid d;have G:Hid (Below w w w4):=C.o.grown c t (fun q hq=>by obtain⟨_,_,p,_⟩:=D.o;exact (p.lt q hq).1);clear d c;go_wp2;go_roundw;case rel=>exact⟨[],h3,_,rx.none (by unfold maxLen;omega),fun x u=>by simp at u,by simp;omega,rfl,Z,F,I,G⟩
     case measure=>simp;omega
   | some k=>
    obtain⟨aE,N,U,M⟩:=OE Y;have am:=Lib.hid N;have aP:k<n:=(by rw[<-HN.o];exact aE);have aC:Hid (rx w (g,o,k,H) (f.take k)):=Q.o.take (by omega);have ak:(f.take k).length=k:=(by rw[zi];omega);have K:=Lib.hid (YX X.o _ (f.take k) m B w2 (xT.below aC.o.row A.o) (fun x u=>XH (fun y hy=>(ai.o y (xd hy)).below A.o) U x u) (by rw[ak];omega));unfold Wt at K;have T:=Lib.hid M;have aG:(emit (tO (wrs (f.take k)) m)).length<=k:=(by rw[Xo];have p:=Zl (wrs (f.take k)) m B;rw[ZX,ak]at p;exact p);clear Y N U M ak;rw[am.o];have q1:decide ((k:Int)<0)=false:=(by rw[zJ];omega);have q2:0<=(k:Int):=(by omega);have q3:(k:Int)<=(H:Int):=(by omega);have q4:(k:Int)<(n:Int):=(by omega);have q5:(k:Int)+1<=(n:Int):=(by omega);have q6:(n:Int)<=(H:Int):=(by omega);have q7:=zW ((k:Int)+1);have q8:((k:Int)+1).toNat=k+1:=(by omega);have q9:0<=(k:Int)+1:=(by omega);have I:Hid (((O++emit (tO (wrs (f.take k)) m))++[barR])++rO [] (o8 (wrs (f.take k)) m) ((f.drop (k+1)).map rab)=pM (E.map rab) h):=(by have p:=S.o;rw[T.o,KC,xj]at p;show _=_;rw[<-p];simp);have Z:=WF (wrs (f.take k)) m B;have aD:=Lib.hid (Q.o.drop (k:=k+1) (by omega));have au:Hid (∀x∈f.drop (k+1),x∈E):=fun x u=>HS.o x (xY u);have af:(f.drop (k+1)).length=n-(k+1):=(by rw[yx,HN.o]);clear S T;generalize emit (tO (wrs (f.take k)) m)=L at *
    generalize o8 (wrs (f.take k)) m=h3 at *
    have aq:(O++L).length+[barR].length<=1000000:=(by rw[zl];simp;omega);have ab:(O++L++[barR]).length=O.length+L.length+1:=(by simp;omega);by_cases P:H=k+1
    .have a5:n=k+1:=(by omega);subst P;subst a5;go_wp2_with (first
      | (
       go_at_call 169;refine K.o.mono ?_;rintro e w3 ⟨pv,rfl,s,j⟩
       have R:=Lib.hid s;have D:=Lib.hid (ad.o.below j);have C:Hid (Below w w w3):=Below.step A.o j;have t:=C.o.size;have r:True:=trivial;clear s j)
      | (
       at_builtin;have _t:=r;refine Vd rfl _ _ rfl _ _ w.heap.size _ _ _ rfl rfl D.o R.o J t (by omega) ?_;intro v4 w4 d c
       have F:=Lib.hid d;have G:Hid (Below w w w4):=C.o.grown c t (fun q hq=>by obtain⟨_,_,p,_⟩:=D.o;exact (p.lt q hq).1);have V:=G.o.size;have z:True:=trivial;clear d c r _t)
      | (
       at_builtin;have _t:=z;refine Vd rfl _ _ rfl _ _ w.heap.size w.heap.size _ _ rfl rfl (F.o.below (zB.alloc zL _)) (Jh w4 w V) zL (by simp;omega) aq ?_;intro v5 w5 l i
       have ac:=Lib.hid l;have al:Hid (Below w w w5):=(G.o.alloc V _).grown i (by simp;omega) (fun q hq=>by obtain⟨_,_,p,_⟩:=F.o;exact (p.lt q hq).1);clear l i z _t))
     have a3:f.drop (k+1)=[]:=yG.1 (by rw[af];omega);go_roundw;case rel=>exact⟨f.drop (k+1),h3,_,by rw[a3];exact rx.none (by unfold maxLen;omega),au,by rw[af,ab];omega,rfl,Z,ac,I,al⟩
     case measure=>simp
    .go_wp2_with (first
      | (
       go_at_call 169;refine K.o.mono ?_;rintro e w3 ⟨pv,rfl,s,j⟩
       have R:=Lib.hid s;have D:=Lib.hid (ad.o.below j);have C:Hid (Below w w w3):=Below.step A.o j;have t:=C.o.size;have r:True:=trivial;clear s j)
      | (
       at_builtin;have _t:=r;refine Vd rfl _ _ rfl _ _ w.heap.size _ _ _ rfl rfl D.o R.o J t (by omega) ?_;intro v4 w4 d c
       have F:=Lib.hid d;have G:Hid (Below w w w4):=C.o.grown c t (fun q hq=>by obtain⟨_,_,p,_⟩:=D.o;exact (p.lt q hq).1);have V:=G.o.size;have z:True:=trivial;clear d c r _t)
      | (
       at_builtin;have _t:=z;refine Vd rfl _ _ rfl _ _ w.heap.size w.heap.size _ _ rfl rfl (F.o.below (zB.alloc zL _)) (Jh w4 w V) zL (by simp;omega) aq ?_;intro v5 w5 l i
       have ac:=Lib.hid l;have al:Hid (Below w w w5):=(G.o.alloc V _).grown i (by simp;omega) (fun q hq=>by obtain⟨_,_,p,_⟩:=F.o;exact (p.lt q hq).1);clear l i z _t))
     go_roundw;case rel=>exact⟨f.drop (k+1),h3,_,aD,au,by rw[af,ab];omega,rfl,Z,ac,I,al⟩
     case measure=>simp;omega
  .have av:n=0:=(by omega);have he:f=[]:=yG.1 (by rw[HN.o];exact av);have HF:Hid (O=pM (E.map rab) h):=(by have p:=S.o;rw[he]at p;show _=_;rw[<-p];have h2:=KB [] m B;have:rO [] m []=[]:=yG.1 (by simpa using h2);show O=O++rO [] m [];rw[this,xn]);subst av;clear he hn;go_wp2;go_ret2;refine⟨_,rfl,?_,HB.o⟩;rw[<-HF.o];exact HO.o
