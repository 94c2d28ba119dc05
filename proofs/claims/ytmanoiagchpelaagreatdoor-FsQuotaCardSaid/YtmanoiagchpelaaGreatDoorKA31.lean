import Derived.Test.YtmanoiagchpelaaGreatDoorKA30
set_option maxHeartbeats 0
set_option linter.all false
set_option maxRecDepth 100000
namespace Go.Proofs.YtmanoiagchpelaaGreatDoor
open Go.Proofs.Tryz Go.RowKit
variable {F:Nat->Prop} {w:World}
def sK (x:Tx) (j:Nat):Bool:=(getZ x.dirty (2*j+1)).isSome||(getZ x.dirty (2*j+2)).isSome
def oh (k:Nat) (x:Tx) (j:Nat):Tx:={x.wow (ownU x.ow k (x.fo.nd 0 j)).2 with fo:=ndF (ownU x.ow k (x.fo.nd 0 j)).2.fo j (ownU x.ow k (x.fo.nd 0 j)).1}
def vP (k:Nat) (x:Tx):Nat->Tx
 | 0=>x
 | j+1=>if sK x j=true then oh k (vP k x j) j else vP k x j
def rF (x:Tx):Nat->List (Int×List Int)
 | 0=>x.put
 | j+1=>if sK x j=true then putZ (rF x j) (x.fo.nd 0 j) (rU (x.nodes.getD (2*j) zN)++rU (x.nodes.getD (2*j+1) zN)) else rF x j
def kF (x:Tx):Tx:={x with put:=rF x 16}
def endT (k:Nat) (x:Tx):Tx:=qC (kF (vP k x 16)) x.gone.length
theorem VT (k) (x):∀j,(vP k x j).nodes=x.nodes/\(vP k x j).dirty=x.dirty/\(vP k x j).put=x.put/\(vP k x j).gone=x.gone/\(vP k x j).rows=x.rows
 | 0=>⟨rfl,rfl,rfl,rfl,rfl⟩
 | j+1=>by
  have a:=VT k x j;unfold vP;split
  .exact a
  .exact a
theorem YR (o) (k) (p):(ownU o k p).2.fo.nd=o.fo.nd:=by
 have a:∀o,(qB o k).2.fo.nd=o.fo.nd:=fun o=>by
  unfold qB;cases jx o.fo k with
  | none=>rfl
  | some n=>rfl
 unfold ownU;split
 .exact a o
 .split
  .exact a _
  .rfl
theorem WB {k:Nat} {x:Tx} (s:k<=256) (t:256<=x.fake) (u:∀i,i<16->0<=x.fo.nd 0 i/\x.fo.nd 0 i<=x.fake):∀j,j<=16->256<=(vP k x j).fake/\x.fake<=(vP k x j).fake/\(vP k x j).fake<=x.fake+j/\(∀i,i<16->0<=(vP k x j).fo.nd 0 i/\(vP k x j).fo.nd 0 i<=(vP k x j).fake)/\∀i,j<=i->(vP k x j).fo.nd 0 i=x.fo.nd 0 i
 | 0,_=>⟨t,wU _,by show x.fake<=_;omega,u,fun _ _=>rfl⟩
 | j+1,r=>by
  obtain⟨a,b,c,d,e⟩:=WB s t u j (by omega);unfold vP;split
  .obtain⟨n,l,h,q⟩:=YS (o:=(vP k x j).ow) (p:=(vP k x j).fo.nd 0 j) s a (d j (by omega));have f:=YR (vP k x j).ow k ((vP k x j).fo.nd 0 j);have m:(vP k x j).ow.fk=(vP k x j).fake:=rfl;refine⟨wS a h,wS b h,?_,fun i g=>?_,fun i g=>?_⟩
   .show (ownU (vP k x j).ow k ((vP k x j).fo.nd 0 j)).2.fk<=_;omega
   .show 0<=(if 0=0/\i=j then (ownU (vP k x j).ow k ((vP k x j).fo.nd 0 j)).1 else (ownU (vP k x j).ow k ((vP k x j).fo.nd 0 j)).2.fo.nd 0 i)/\(if 0=0/\i=j then (ownU (vP k x j).ow k ((vP k x j).fo.nd 0 j)).1 else (ownU (vP k x j).ow k ((vP k x j).fo.nd 0 j)).2.fo.nd 0 i)<=(ownU (vP k x j).ow k ((vP k x j).fo.nd 0 j)).2.fk;split
    .exact⟨n,l⟩
    .rw[f];exact⟨(d i g).1,wS (d i g).2 h⟩
   .show (if 0=0/\i=j then (ownU (vP k x j).ow k ((vP k x j).fo.nd 0 j)).1 else (ownU (vP k x j).ow k ((vP k x j).fo.nd 0 j)).2.fo.nd 0 i)=_;rw[zb (by omega),f];exact e i (by omega)
  .exact⟨a,b,by omega,d,fun i g=>e i (by omega)⟩
theorem txR_nd (fp) (fo) (rv nv dv pv gv) (full) (fake) (j) (e:j<16) (p):(txR fp fo rv nv dv pv gv full fake).setIfInBounds (1+j) (.int .i64 p)=txR fp (ndF fo j p) rv nv dv pv gv full fake:=by
 refine YJ (by simp[pi]) fun i d=>?_;rw[yM,pi,qt _ _ _ _ _ _ _ _ _ _ d];unfold pT;by_cases c:1+j=i
 .subst c;rw[ze rfl,ze (by omega),zb (by omega),ze (by omega)];unfold uU ndF;rw[show (1+j-1) / 48=0 by omega,show (1+j-1)%48=j by omega,ze e];simp
 .rw[zb c];by_cases a:i=0
  .rw[ze a,ze a]
  .rw[zb a,zb a];by_cases b:i<193
   .rw[ze b,ze b];unfold uU ndF;split
    .dsimp only;rw[zb (by omega)]
    .rfl
   .rw[zb b,zb b]
theorem IB (x):∀j,(rF x j).length<=x.put.length+j
 | 0=>zL
 | j+1=>by
  have a:=IB x j;unfold rF;split
  .have:=oy (x.fo.nd 0 j) (rU (x.nodes.getD (2*j) zN)++rU (x.nodes.getD (2*j+1) zN)) (rF x j);omega
  .omega
theorem Iy {α:Type} (k) (v):∀{l:List (Int×α)},so l->(putZ l k v).length=if hasZ l k=true then l.length else l.length+1
 | [],_=>rfl
 | y::r,h=>by
  have d:=Iy k v h.tail;unfold hasZ at *
  unfold putZ getZ;by_cases b:k<y.1
  .have a:getZ r k=none:=by
    cases c:getZ r k with
    | none=>rfl
    | some z=>exact zY (h.head _ (nu c)) (by show ¬y.1<k;omega)
   rw[ze b,zb (show ¬y.1=k by omega),a];rfl
  .rw[zb b];by_cases a:k=y.1
   .rw[ze a,ze a.symm];rfl
   .rw[zb a,zb (yA a),yx,d];split<;>rfl
theorem Wx {α β:Type} (k) (v) (u):∀{l:List (Int×α)} {m:List (Int×β)},l.map (·.1)=m.map (·.1)->(putZ l k v).map (·.1)=(putZ m k u).map (·.1)
 | [],[],_=>rfl
 | [],_::_,h=>by cases h
 | _::_,[],h=>by cases h
 | y::l,z::m,h=>by
  simp only[yF,tX]at h;unfold putZ;rw[h.1];split
  .simp only[yF,h.1,h.2]
  .split
   .simp only[yF,h.2]
   .simp only[yF,h.1,Wx k v u h.2]
theorem IF {α β:Type}:∀{p} {q} {t:List (Int×α)} {u:List (Int×β)},p.map (·.1)=q.map (·.1)->t.map (·.1)=u.map (·.1)->(uR t p).map (·.1)=(uR u q).map (·.1)
 | [],[],_,_,_,h=>h
 | [],_::_,_,_,h,_=>by cases h
 | _::_,[],_,_,h,_=>by cases h
 | y::p,z::q,t,u,h,a=>by simp only[yF,tX]at h;show (uR (putZ t y.1 y.2) p).map _=(uR (putZ u z.1 z.2) q).map _;refine IF h.2 ?_;rw[h.1];exact Wx _ _ _ a
theorem Ji {α:Type}:∀{p t:List (Int×α)},so t->so (uR t p)
 | [],_,h=>h
 | y::p,_,h=>Ji (p:=p) (ZZ y.1 y.2 h)
theorem Gk {α:Type} {k:Int}:∀{p t:List (Int×α)},(∀y∈p,y.1≠k)->getZ (uR t p) k=getZ t k
 | [],_,_=>rfl
 | y::p,t,h=>by show getZ (uR (putZ t y.1 y.2) p) k=_;rw[Gk fun z a=>h z (yZ _ a),mR _ (yA (h y xn))]
theorem ou.put {pl:List (Int×Value)} {l:List (Int×List Int)} (h:ou w F pl l) {k:Int} {v:Value} {D:List Int} (c:sJ w 0 v D) (d:∀g,v.ownBlock=some g->¬F g):ou w F (putZ pl k v) (putZ l k D):=
 ⟨tu.put c h.sec,fun y a g b=>by
  rcases mt a with rfl|a
  .exact d g b
  .exact h.out y a g b⟩
structure kZ (s:Fs):Prop where
 g:ld s.k (wrOf s.todo)
 k:∀y∈s.todo,0<=y.1/\y.1<256
 q:0<=s.sq/\s.sq<=1000
 w:s.dk.W.length<800000
def pA (x:Tx) (s:Fs):Fs:=if 30<(uR s.todo (tE x s)).length then mE s else s
def mo (x:Tx) (s:Fs):Fs:={pA x s with fo:=x.fo,rows:=x.rows,nodes:=x.nodes,todo:=uR (pA x s).todo (tE x s)}
structure KeepJ (w0:World) (gt gf:Nat) (x:Tx) (s s1:Fs) (a:Addr) (F1:Nat->Prop) (W:World):Prop where
 ex:∃F' T3 rv gn cn gd gp gv E pl,FsAt W gf s1 F' a/\uV W w0 F' T3 gt (gf,()) {x with put:=tE x s} rv gn cn gd gp gv E pl/\(∀i,T3 i->¬F' i/\i<W.heap.size)/\ou W F' pl (tE x s)/\(∀i,F' i->F1 i\/w0.heap.size<=i)/\T3 gt
 keeps:yQ F1 w0 W
theorem JW {α:Type} (t p) (k) (v:α):uR t (p++[(k,v)])=putZ (uR t p) k v:=by unfold uR;rw[xG];rfl
theorem qs.done_len {P:Program} {K:TypeId} {b r:Nat} {l done:List (Int×Value)} {cnt:Nat} (h:qs P K w b r l done cnt):done.length<=l.length:=by obtain⟨_,_,d,c,_⟩:=h;have:=jS (ys:=l.map (·.1)) d (fun z e=>by obtain⟨y,a,rfl⟩:=zU.1 e;exact zU.2 ⟨y,c y a,rfl⟩);simpa using this
theorem SY {w0:World} {F1 T:Nat->Prop} {gt gf:Nat} {x:Tx} {s:Fs} {a:Addr} (hf:FsAt w0 gf s F1 a) (hb:Below w0 w0 w) (h:TxAt w w0 F gt (gf,()) x T) (af:∀i,F1 i->F i)
 (hr:qa x.fo=0) (hq:rd x.rows=0) (an:s.todo.length<=1000) (hpt:x.put.length<=890) (hs:30<(uR s.todo (tE x s)).length->kZ s):
 Calls prog 120 #[(gt,())] w
  (fun e w'=>e=.returned ()/\∃F',FsAt w' gf (mo x s) F' a/\(∀i,F' i->F1 i\/w0.heap.size<=i)/\yQ F1 w0 w'):=by
 have H:=za h;have HF:=za hf;have cZ:=za hb;obtain⟨rv,gn,cn,gd,X,gv,E,pl,V⟩:=h.lies;obtain⟨c0,aw,aZ,a8,ac,ba,aY,a7⟩:=rt V.row;have HL:=za V;have cS:Hid (5<=s.k):=za (zt (by omega) hf.k0);have d3:=za an;have cA:=za hpt;have eu:=za hs;obtain⟨A,HA⟩:=zA (encF x.fo);have eP:Hid (A.size=192):=by rw[HA.o];exact uj _
 obtain⟨R,HR⟩:=zD (txR (gf,()) x.fo rv (.slice (some ⟨gn,0,none⟩) 32 cn) (.map (some gd)) (.map (some X)) gv x.full x.fake);have cN:Hid (∀j,j<A.size->R[1+j]?=A[j]?):=by rw[<-HR.o,HA.o];exact eK _ _ _ _ _ _ _ _ _
 have aF:=V.row;rw[HR.o]at aF;have aI:=za aF;have d2:Hid (∀W,Calls prog 107 #[.agg A] W (VF x.fo W)):=fun W=>by rw[HA.o];exact K4 _ hr W
 have c5:Hid (∀W,Below w w W->Calls prog 146 #[rv] W (Ks x.rows W)):=fun W hW=>JS rv x.rows W (V.rows.now.below hW) hq;have eT:=(ZY hq).1;clear h hf hb V hr hq aF hs;go_enter func120,ntmps120;go_wp2_with (refine pZ (by kernel_rfl) 106 (.tmp 19) rfl gt 1 rfl 118 R A (0,0) _ aI.o cN.o forT rfl (by rw[eP.o];exact forI) ?_)
 refine (d2.o w).mono ?_;rintro e w1 ⟨v1,rfl,cR,dE⟩;obtain⟨_,⟨_,h0⟩|⟨g1,eG,fs,rfl,eH,bG,eZ,_,_,d6⟩⟩:=id cR
 .omega
 have br:=za dE;have eL:=za bG;have fe:=za d6;have eQ:Hid (w.heap.size<=g1/\g1<w1.heap.size):=⟨by omega,xR bG⟩;clear cR dE bG d6 eH;have cx:=(br.o.cell (p:=⟨gt,193,none⟩) (xR aI.o)).trans aw;go_wp2_with fail
 refine (c5.o w1 br.o).mono ?_;rintro e w2 ⟨g2,rfl,da,ch,cf⟩;have di:=za (zf br.o cf);have eb:=za ch;have bC:=za (wy cf eL.o);have cv:Hid (w.heap.size<=g2/\g2<w2.heap.size/\g1<w2.heap.size):=⟨zt br.o.size da,xR ch,xR bC.o⟩;clear da ch cf c0 aw cx aZ a8 ac ba aY a7;have cK:=za (H.o.below di.o);have ad:=za (cZ.o.trans (di.o.mono cZ.o.size));go_wp2;go_loopw [38] (fun iv wr=>∃j:Nat,j<=3/\iv=.int .i64 j/\Hid (uc w0 F gt (gf,()) {x with put:=dfK s (uH x.fo) x.put j} T w2 wr)) (fun iv _=>3-(intOf iv).toNat);case atStart=>exact⟨0,by omega,rfl,uc.same cK.o zB⟩
 case round=>
  obtain⟨j,hj,rfl,HD⟩:=hrel;by_cases et:j<3
  .obtain⟨T1,t1,t2,t3,t4⟩:=HD.o;have ai:=za t3;have a6:=za t2;have bZ:=za t4;have bF:¬T g1:=fun d=>(by have:=H.o.fin g1 d;have:=eQ.o.1;omega);have aJ:=ad.o.trans (t3.to_below H.o.new ad.o.size);have aC:=(t3.block g1 cv.o.2.2 bF).trans bC.o;have ah:vQ wr (.slice (some (g1,64*j)) 64 (eG-64*j)) (sec (uH x.fo) j):=Yk (_base:=0) (_c:=0) (Zp _) aC (by simpa using fe.o) (64*j) 64 _ (by omega);have dy:(sec (uH x.fo) j).length=64:=mI (k:=3) (Zp _) et;have ar:=za (Wk HF.o aJ t1 (1+j) (by have:=cS.o;omega) _ _ ah dy (by have:=ZN s (uH x.fo) x.put j;show (dfK s (uH x.fo) x.put j).length<900;omega));have i1:=zW (64*j) (by omega);have i2:=zW (j+1) (by omega);have i3:=zW (64*(j+1)) (by omega);have i4:=zW (1+j) (by omega);have i5:((1+j:Nat))=1+(j:Int):=(by omega);rw[i5]at ar;have fm:(j:Int)<3:=(by omega);clear t1 t2 t3 t4 aJ aC ah dy bF;go_wp2_with fail
   rw[show 64*(j+1)-64*j=64 by omega];refine ar.o.mono ?_;rintro e w3 ⟨rfl,T3,u1,u2,u3,u4⟩;have eE:Hid (uc w0 F gt (gf,()) {x with put:=dfK s (uH x.fo) x.put (j+1)} T w2 w3):=by
    refine⟨T3,?_,fun r hr=>?_,ai.o.trans u3 a6.o,fun r hr=>u4 r (bZ.o r hr)⟩
    .have e:dfK s (uH x.fo) x.put (j+1)=if eqB (secE s (1+j)) (sec (uH x.fo) j)=true then dfK s (uH x.fo) x.put j else putZ (dfK s (uH x.fo) x.put j) (1+j) (sec (uH x.fo) j):=by
      conv=>lhs;unfold dfK
      rw[i5]
     rw[e];exact u1
    .rcases u2 r hr with I|I
     .exact a6.o r I
     .exact zu (zt ai.o.size I)
   clear u1 u2 u3 u4 ar;go_wp2;go_roundw;case rel=>exact⟨j+1,by omega,by go_num,eE⟩
   case measure=>simp[intOf];omega
  .obtain rfl:j=3:=(by omega);obtain⟨T1,t1,t2,t3,t4⟩:=HD.o;have ai:=za t3;have a6:=za t2;have bZ:=za t4;have b7:¬T g2:=fun d=>(by have:=H.o.fin g2 d;have:=cv.o.1;omega);have aJ:=ad.o.trans (t3.to_below H.o.new ad.o.size);have aC:=(t3.block g2 cv.o.2.1 b7).trans eb.o;have bj:(sA x.rows.length x.rows).length=64:=VJ _ _ eT;have ah:vQ wr (.slice (some ⟨g2,0,none⟩) 64 64) (sA x.rows.length x.rows):=pD bj aC (by show (u8s (sA x.rows.length x.rows)).toArray.toList.take 64=u8s (sA x.rows.length x.rows);rw[xX,zv (by rw[uo,bj];exact zL)]);have ar:=za (Wk HF.o aJ t1 4 (by have:=cS.o;omega) _ _ ah bj (by have:=ZN s (uH x.fo) x.put 3;show (dfK s (uH x.fo) x.put 3).length<900;omega));rw[show ((4:Nat):Int)=4 from rfl]at ar;clear t1 t2 t3 t4 aJ aC ah bj b7;go_wp2_with fail
   refine ar.o.mono ?_;rintro e w3 ⟨rfl,T3,u1,u2,u3,u4⟩;have de:Hid (TxAt w3 w0 F gt (gf,()) {x with put:=tE x s} T3):=u1;have ct:Hid (Below w0 w0 w3):=(by have hk:=ai.o.trans u3 a6.o;exact ad.o.trans (hk.to_below H.o.new ad.o.size));clear u1 u2 u3 u4 ar HD ai a6 bZ aI cN d2 c5 cK HR HL;obtain⟨rv,gn,cn,gd,X,gv,E,pl,V⟩:=de.o.lies;obtain⟨c0,aw,aZ,a8,ac,ba,aY,a7⟩:=rt V.row;obtain⟨⟨gl,aW,aT,L,bh,E',O,FD,f1,f2,f3,f4,f5,f6,f7,f8,f9,ak,al,bq,bn,b3,bf,b1,b2⟩,bk,bL,bg,bi,bw,bx,cg⟩:=HF.o.below ct.o;obtain⟨d0,d1,dd,d9,b8,dp⟩:=nw f1;have fO:=ak.len (T:=109) mz 3;have Q:=za ak;have cu:=za V.puts;have cI:=al.len;have dV:pl.length<=x.put.length+4:=(by rw[V.secs.len];have q1:=gB s (sA x.rows.length x.rows) (dfK s (uH x.fo) x.put 3);have q2:=ZN s (uH x.fo) x.put 3;show (tE x s).length<=_;unfold tE;omega);have aU:Hid (O.length+pl.length<=2000):=za (by have:=d3.o;have:=cA.o;omega);have fM:=za al;have fh:Hid ((uR O pl).length=(uR s.todo (tE x s)).length):=(by have:=zV List.length (IF V.secs.1 al.sec.1);show _=_;simpa using this);have M:=za V;have fg:=za de.o;have aP:=za f5;have J:=za f1;have U:Hid (gt<w3.heap.size/\gf<w3.heap.size/\X<w3.heap.size/\L<w3.heap.size/\gl<w3.heap.size):=⟨xR V.row,xR f1,V.puts.lt,ak.lt,xR f5⟩;have HC:Hid (w3.cell? (gt,0)=some (.pointer (some ⟨gf,0,none⟩))/\w3.cell? (gt,196)=some (.map (some X))/\w3.cell? (gf,1)=some (.pointer (some ⟨gl,0,none⟩))/\w3.cell? (gf,196)=some (.map (some L))):=⟨c0,ac,d1,b8⟩;clear V f1 f2 f3 f4 f5 f6 f7 f8 f9 ak al bq bn b3 bf b1 b2 bk bL bg bi bw bx cg aw aZ a8 ba aY a7 d0 dd d9 dp;go_wp2_with (at_range;refine U7 _ rfl _ _ rfl 3 56 intT mz X pl rfl cu.o ?_;intro w4 cH cX el)
   have ea:=za (xB zB cX zL (fun q hq=>by cases hq));have eA:=za cH;clear cH cX el c0 ac d1 b8;simp only[Act.put,zK,yi,yf];go_loopw [9] (fun nv wr=>∃(c:Nat) (C:List (Int×Value)) (aK:Nat),nv=.int .i64 c/\Hid (c=(uR O C).length)/\Hid (qs prog 3 wr X w3 pl C aK)/\Hid (Below w3 w3 wr)) (fun _ wr=>wr.rangeLeft X w3.heap.size);case atStart=>exact⟨s.todo.length,[],pl.length,rfl,cI.symm,eA,ea⟩
   case round=>
    obtain⟨c,C,aK,rfl,be,bb,ao⟩:=hrel;have bW:=bb.o.left_eq;have dD:=(ao.o.cell (p:=⟨gf,1,none⟩) U.o.2.1).trans HC.o.2.2.1;go_wp2_with (at_next;refine UZ _ rfl _ rfl 3 intT X _ pl C aK rfl bb.o (fun hp=>?qd) (fun xk c' w' aG bK ax ay cr ab dg av co eO=>?qm);(case' qm=>(have bB:=za ab;have fK:(c:Int)<=3000:=(by have I:=be.o;have h2:=K7 O C;have h3:=bb.o.done_len;have:=aU.o;omega);have dm:=za (Iy xk c' (Ji (p:=C) Q.o.2.1));have dv:Hid (getZ (uR O C) xk=getZ O xk):=Gk (fun y hy d=>ay (by rw[<-d];exact zU.2 ⟨y,hy,rfl⟩));have bo:=za (xB ao.o av ao.o.size (fun q hq=>by injection hq with hq;omega));have dQ:=(Q.o.of_block (bo.o.block _ Q.o.lt)).look_ok (k:=xk) intT mz (u8sZ w') bK;have eB:=(bo.o.cell (p:=⟨gf,196,none⟩) U.o.2.1).trans HC.o.2.2.2;have bD:=ab.left_eq;(cases ci:hasZ O xk)<;>(rw[ci]at dQ;clear ab av co ax ay))))
    .go_roundw;case rel=>exact⟨c+1,_,aG,by go_num,by show _=_;rw[JW,dm.o,hasZ,dv.o,show (getZ O xk).isSome=false from ci,zb (by simp),be.o],bB,bo⟩
     case measure=>rw[bW,bD];omega
    .go_roundw;case rel=>exact⟨c,_,aG,rfl,by show _=_;rw[JW,dm.o,hasZ,dv.o,show (getZ O xk).isSome=true from ci,ze rfl,be.o],bB,bo⟩
     case measure=>rw[bW,bD];omega
    .have eJ:=hp.length_eq;have bS:Hid (c=(uR s.todo (tE x s)).length):=(by show _=_;rw[be.o,<-fh.o];exact zV List.length (IE hp bb.o.2.2.1));have cG:=za (wy ao.o aP.o);have a1:=tC M.o.row J.o (by decide);have bc:=za (ct.o.trans (ao.o.mono ct.o.size));have dx:=za (HF.o.below bc.o);have l:=za (M.o.below ao.o);have ap:=za (fg.o.below ao.o);have bz:=za HF.o.fin;have bd:Hid (ou wr F1 pl (tE x s)):=⟨⟨l.o.secs.1,fun i I h2=>(l.o.secs.2 i I h2).mono zZ⟩,fun y hy g hg d=>by obtain⟨i,I,rfl⟩:=va hy;obtain⟨g',fL,fx,e1,_,_,e4,_⟩:=l.o.secs.2 i I (by have:=l.o.secs.len;rw[<-this];exact I);rw[e1]at hg;injection hg with hg;have fP:g'=g:=hg;have:=bz.o g d;omega⟩;clear bb bW dD eJ hp
     go_upto_if 93 with (go_at_call 161;refine (RX cG.o).mono ?_;rintro e w' ⟨rfl,rfl⟩)
     go_cut [0,8] (fun s0 s8 wx=>s0=.pointer (some ⟨gt,0,none⟩)/\s8=.pointer (some ⟨gf,0,none⟩)/\KeepJ w0 gt gf x s (pA x s) a F1 wx)
     case first=>
      by_cases aN:30<c
      .have bP:30<(c:Int):=(by omega);have bO:Hid (pA x s=mE s):=(by show _=_;unfold pA;rw[ze (by rw[<-bS.o];exact aN)]);have aB:=eu.o (by rw[<-bS.o];exact aN);have cT:=za (i9 dx.o aB.g aB.k aB.q aB.w);clear aB;go_wp2_with fail
       refine cT.o.mono ?_;rintro e w6 ⟨rfl,cW,au⟩;have dZ:=za cW;have a4:=za au;clear cW au;go_wp2
       go_meet
       case rel=>
        have fI:∀i,(F1 i\/(wr.heap.size<=i/\i<w6.heap.size))->F1 i\/wr.heap.size<=i:=fun i z=>z.imp id fun h=>h.1;have bm:∀b,b<wr.heap.size->w0.heap.size<=b->w6.heap[b]?=wr.heap[b]? :=fun b I h2=>a4.o.block b I fun d=>zY (bz.o b d) (xQ h2);have am:∀i,T3 i->w0.heap.size<=i/\i<wr.heap.size:=fun i z=>⟨ap.o.new i z,ap.o.fin i z⟩;have bM:∀b,T3 b->w6.heap[b]?=wr.heap[b]? :=fun b hb=>bm b (am b hb).2 (am b hb).1;refine⟨rfl,rfl,⟨_,T3,rv,gn,cn,gd,X,gv,E,pl,by rw[bO.o];exact dZ.o,⟨(bM gt ap.o.self).trans l.o.row,?_,?_,?_,l.o.dirt.of_block (bM gd l.o.td),l.o.puts.of_block (bM X l.o.tp),?_,l.o.ne,?_,l.o.tn,l.o.td,l.o.tp,l.o.tg⟩,fun i z=>⟨fun d=>?_,?_⟩,?_,fun i z=>?_,ap.o.self⟩,?_⟩
        .exact ZJ l.o.rows (a4.o.mono fun i _ z=>zr (af i z)) fun i z=>z.elim (fun h=>h.elim (fun h=>zr (zr (af i h))) fun h=>zu h.1) fun h=>zr (zu h)
        .exact tw l.o.own fun b hb=>bm b (l.o.own.lt b hb).2 (l.o.own.lt b hb).1
        .exact iY l.o.nds (a4.o.mono fun i _ z=>zr (af i z)) fun i z=>z.elim (fun h=>h.elim (fun h=>zr (zr (af i h))) fun h=>zu h.1) fun h=>zr (zu h)
        .exact l.o.secs.keep fun g cc I d=>bm g (xR d) I
        .exact tw l.o.gone fun b hb=>bm b (l.o.gone.lt b hb).2 (l.o.gone.lt b hb).1
        .rcases d with d|d
         .exact zY (bz.o i d) (xQ (am i z).1)
         .exact zY (am i z).2 (xQ d.1)
        .exact zo (am i z).2 a4.o.size
        .exact bd.o.keep fun g cc I d=>⟨a4.o.block g (xR d) I,fun h2=>h2.elim I fun h3=>zY (xR d) (xQ h3.1)⟩
        .exact z.imp id fun h=>zt bc.o.size h.1
        .exact (yQ.of_below bc.o).step a4.o
      .have bP:¬30<(c:Int):=(by omega);have bO:Hid (pA x s=s):=(by show _=_;unfold pA;rw[zb (by rw[<-bS.o];exact aN)]);go_wp2
       go_meet
       case rel =>exact⟨rfl,rfl,⟨F1,T3,rv,gn,cn,gd,X,gv,E,pl,by rw[bO.o];exact dx.o,⟨l.o.row,l.o.rows.grow fun i _ z=>z.imp (af i) id,l.o.own,l.o.nds.grow fun i _ z=>z.imp (af i) id,l.o.dirt,l.o.puts,l.o.secs,l.o.ne,l.o.gone,l.o.tn,l.o.td,l.o.tp,l.o.tg⟩,fun i z=>⟨fun d=>zY (bz.o i d) (xQ (ap.o.new i z)),ap.o.fin i z⟩,bd.o,fun i z=>zr z,ap.o.self⟩,yQ.of_below bc.o⟩
     case rest=>
      obtain⟨rfl,rfl,⟨F',T3,rv,gn,cn,gd,X,gv,E,pl,dC,V,am,d7,c6,fu⟩,ds⟩:=hcut;obtain⟨s1,cb⟩:=zD (pA x s);have em:Hid (mo x s={s1 with fo:=x.fo,rows:=x.rows,nodes:=x.nodes,todo:=uR s1.todo (tE x s)}):=(by show _=_;rw[<-cb.o];rfl);rw[cb.o]at dC;obtain⟨⟨gl,aW,aT,L,bh,E',O,FD,f1,f2,f3,f4,f5,f6,f7,f8,f9,ak,al,bq,bn,b3,bf,b1,b2⟩,bk,bL,bg,bi,bw,bx,cg⟩:=dC;have Q:=za ak;have cu:=za V.puts;have dV:pl.length<=x.put.length+4:=(by rw[V.secs.len];have q1:=gB s (sA x.rows.length x.rows) (dfK s (uH x.fo) x.put 3);have q2:=ZN s (uH x.fo) x.put 3;show (tE x s).length<=_;unfold tE;omega);have cI:O.length<=1000:=by
       rw[al.len,<-cb.o];unfold pA;split
       .exact ye _
       .exact d3.o
      have aU:Hid (O.length+pl.length<=2000):=za (by have:=cA.o;omega);have M:=za V;have ai:=za am;have bd:=za d7;have c4:=za c6;have eg:=za ds;have aP:=za f5;have J:=za f1;have U:Hid (gt<wc.heap.size/\gf<wc.heap.size/\X<wc.heap.size/\L<wc.heap.size/\gl<wc.heap.size):=⟨xR V.row,xR f1,V.puts.lt,ak.lt,xR f5⟩;have HC:=za ((nw f1).2.2.2.2.1);have f:Hid (uS wc (.pointer (some a)) s1.dk s1.k FD/\(∀i,FD i->F' i)/\¬FD gl/\F' gl/\ou wc F' O s1.todo/\F' L/\L≠bh/\¬FD L/\MapL prog 3 wc bh (kI s1.held)/\F' bh/\¬FD bh):=⟨f2,f3,f4,f6,al,bq,bn,b3,bf,b1,b2⟩;have a3:Hid (F' gf/\(∀i,F' i->i<wc.heap.size)/\(s1.held.length<=1000/\∀y∈s1.held,0<=y.2/\y.2<=1000000)/\64<=s1.k/\s1.k<=256):=⟨bk,bg,bi,bw,bx⟩;have ac:=(rt V.row).2.2.2.2.1;have cw:Hid (x.nodes.length=32/\x.rows.length<=20):=⟨H.o.len,H.o.rows⟩;clear V f1 f2 f3 f4 f5 f6 f7 f8 f9 ak al bq bn b3 bf b1 b2 bk bL bg bi bw bx cg am d7 c6 ds;go_wp2_with (at_range;refine U7 _ rfl _ _ rfl 3 56 intT mz X pl rfl cu.o ?_;intro w5 cB dF eF)
      have ck:=za (xB zB dF zL (fun q hq=>by cases hq));have dc:Hid (yQ (fun i=>i=L) wc w5):=yQ.of_below ck.o;have dB:=za cB;obtain⟨r2,bN⟩:=zD wc.heap.size;have dO:Hid (MapL prog 3 w5 L (uR O [])):=Q.o.of_block (ck.o.block _ Q.o.lt);have dT:Hid (ou w5 F' (uR O []) (uR s1.todo [])):=f.o.2.2.2.2.1.keep fun g cc I d=>⟨ck.o.block g (xR d),I⟩;rw[bN.o]at dB;have eS:wc.heap.size<=r2:=(by rw[bN.o];exact zL);have aO:Hid (L≠r2/\X≠L/\r2≠X):=⟨by have:=U.o.2.2.2.1;omega,fun d=>(ai.o X M.o.tp).1 (by rw[d];exact f.o.2.2.2.2.2.1),by have:=U.o.2.2.1;omega⟩;clear cB dF eF ac;simp only[Act.put,zK,yi,yf];rw[bN.o];go_loopw [14] (fun _ wq=>∃(C:List (Int×Value)) (aK:Nat),Hid (qs prog 3 wq X r2 pl C aK)/\Hid (yQ (fun i=>i=L) wc wq)/\Hid (MapL prog 3 wq L (uR O C))/\Hid (ou wq F' (uR O C) (uR s1.todo (C.map fun y=>(y.1,(getZ (tE x s) y.1).getD []))))) (fun _ wq=>wq.rangeLeft X r2);case atStart=>exact⟨[],_,dB,dc,dO,dT⟩
      case round=>
       obtain⟨dn,c9,a5,bV,bs,cO⟩:=hrel;have cL:=a5.o.left_eq;have dt:∀W,yQ (fun i=>i=L) wc W->W.cell? (gf,196)=some (.map (some L)):=fun W hk=>(hk.cell U.o.2.1 (fun d=>by have I:=J.o;exact tQ I Q.o d)).trans HC.o;have ee:=za dt;clear dt;have cM:(uR O dn).length<1000000:=(by have I:=K7 O dn;have h2:=a5.o.done_len;have:=aU.o;omega);have fb:=za cM;clear cM;have a9:∀(w'),wr.grownBy w' (some r2)->yQ (fun i=>i=L) wc w'/\w'.cell? (gf,196)=some (.map (some L))/\(∀b,b<wr.heap.size->b≠r2->w'.heap[b]?=wr.heap[b]?)/\MapL prog 3 w' L (uR O dn):=fun w' av=>(by have cq:=yQ.grown (F:=fun i=>i=r2) av (fun q hq=>by injection hq with hq;exact hq.symm);have aV:=bV.o.trans cq (fun i z=>zu (by rw[z];exact eS));exact⟨aV,ee.o w' aV,fun b I h2=>cq.block b I h2,bs.o.of_block (cq.block L bs.o.lt aO.o.1)⟩);have ew:=za a9;clear a9;go_wp2_with (first
        | (at_next;refine UZ _ rfl _ rfl 3 intT X _ pl dn c9 rfl a5.o (fun hp=>?qd2) (fun xk c' w' aG bK ax ay cr ab dg av co eO=>?qm2);(case' qm2=>(have ed:=za ax;have eq:=za bK;have eX:=za dg;have bH:=za ab;obtain⟨aV,eB,b9,cE⟩:=ew.o w' av;have dX:=za aV;have ej:=za b9;have dA:=za cE;clear ab av co ax ay aV b9 cE)))
        | (at_mapUpdate;refine Jy _ rfl _ _ _ _ rfl 3 56 intT mz L (uR O dn) xk c' rfl dA.o fb.o rfl rfl eq.o ?_;intro w6 fc eV))
       .have au:yQ (fun i=>i=L) w' w6:=yQ.grown eV.grown (fun r hr=>by injection hr with hr;exact hr.symm);have dz:=za (bH.o.of_block (au.block X bH.o.map.lt aO.o.2.1) (au.block r2 bH.o.lt (yA aO.o.1)));have cD:=dX.o.step au;have e1:uR O (dn++[(xk,c')])=putZ (uR O dn) xk c':=(by unfold uR;rw[xG];rfl);have ec:Hid (MapL prog 3 w6 L (uR O (dn++[(xk,c')]))):=(by show _;rw[e1];exact fc);have eo:Hid (ou w6 F' (uR O (dn++[(xk,c')])) (uR s1.todo ((dn++[(xk,c')]).map fun y=>(y.1,(getZ (tE x s) y.1).getD [])))):=by
         have e2:uR s1.todo ((dn++[(xk,c')]).map fun y=>(y.1,(getZ (tE x s) y.1).getD []))=putZ (uR s1.todo (dn.map fun y=>(y.1,(getZ (tE x s) y.1).getD []))) xk ((getZ (tE x s) xk).getD []):=(by unfold uR;rw[yy,xG];rfl);show _;rw[e1,e2];have bX:=mQ a5.o.1 ed.o;rcases M.o.secs.get (k:=xk) with⟨q1,_⟩|⟨v,D,q1,q2,q3⟩
         .rw[bX]at q1;cases q1
         .rw[bX]at q1;injection q1 with q1;subst q1;have fi:getZ (tE x s) xk=some D:=q2;rw[fi];refine ou.put (cO.o.keep fun g cc h9 d=>?_) ?_ ?_
          .have I:=ej.o g (xR d) (a5.o.not_cells d);have h2:=I.trans d;exact⟨(au.block g (xR h2) (tQ h2 dA.o)).trans I,h9⟩
          .exact Z9 (q3.mono zZ) fun g cc _ d=>cD.block g (xR d) (tQ d Q.o)
          .exact fun g hg=>bd.o.out _ (nu bX) g hg
        have du:=dz.o.left_eq;exact⟨⟨_,_,_,_,_,_,_,_,_,_,_,_,_,⟨_,_,dz,za cD,ec,eo⟩,rfl⟩,by rw[cL,du];exact eX.o⟩
       .have aD:∀(g:Nat) (c) (t),wc.heap[g]?=some (.cells c t)->wr.heap[g]?=some (.cells c t):=fun g c t d=>(bV.o.block g (xR d) (tQ d Q.o)).trans d;have aQ:=aD gt _ _ M.o.row;have cP:=aD gf _ _ J.o;obtain⟨A2,bu⟩:=zA (encF x.fo);have aE:Hid (A2.size=192):=(by rw[bu.o];exact uj _);have dj:Hid (A2.all (·.oneCell')=true):=(by rw[bu.o];exact nx _);obtain⟨eR,aS,aL,bI,bY,bQ,bU,cp⟩:=rt aQ;obtain⟨R2,c8⟩:=zD (txR (gf,()) x.fo rv (.slice (some ⟨gn,0,none⟩) 32 cn) (.map (some gd)) (.map (some X)) gv x.full x.fake);have cY:Hid (∀j,j<A2.size->R2[1+j]?=A2[j]?):=(by rw[<-c8.o,bu.o];exact eK _ _ _ _ _ _ _ _ _);have bA:wr.heap[gt]?=some (.cells R2 118):=(by rw[<-c8.o];exact aQ);have c3:=za bA;have a1:=tC aQ cP (by decide);have dq:Hid (wr.cell? (gt,193)=some rv/\wr.cell? (gt,194)=some (.slice (some ⟨gn,0,none⟩) 32 cn)):=⟨aS,aL⟩;have cF:∃q n c,rv=.slice q n c:=by
         obtain⟨_,⟨hv,a0,c0,e⟩|⟨g,o,c,e,_⟩⟩:=M.o.rows.now
         .exact⟨_,_,_,e⟩
         .exact⟨_,_,_,e⟩
        obtain⟨fk,dP,dU,ex⟩:=cF;have aX:=xR aQ;have bT:=za cP;clear eR aS aL bI bY bQ bU cp aQ bA;refine Io (by kernel_rfl) (by kernel_rfl) (fun D _ u=>yQ (fun i=>i=gf) wr u/\u.heap[gf]?=some (.cells (fsR (.pointer (some a)) (gl,()) (if D 17=true then x.fo else s1.fo) (if D 20=true then rv else aW) (if D 23=true then .slice (some ⟨gn,0,none⟩) 32 cn else aT) (.map (some L)) (.map (some bh))) 111))
         136 (fun i=>if i<17 then 115+i else if i=17\/i=20\/i=23 then 1000+i else if i<20 then 114+i else if i<23 then 113+i else 2000+i) (kpF gt gf A2 rv (.slice (some ⟨gn,0,none⟩) 32 cn)) (fun k v=>(k=0/\v=.pointer (some ⟨gt,0,none⟩))\/(k=8/\v=.pointer (some ⟨gf,0,none⟩))) (fun i j fz=>?_) (fun i k v hk=>?_) (by kernel_rfl) ⟨rfl,rfl,fun k v hk=>?_,(yQ.refl _ _).drew,bT.o⟩ ?_ ?_
        .split<;>split<;>(try split)<;>(try split)<;>(try split)<;>(try split)<;>(try split)<;>(try split)<;>omega
        .have:k<115:=(by rcases hk with⟨rfl,_⟩|⟨rfl,_⟩<;>omega);split<;>(try split)<;>(try split)<;>(try split)<;>omega
        .rcases hk with⟨rfl,rfl⟩|⟨rfl,rfl⟩<;>rfl
        .intro D b u N i o m P B;have hpt:=N.old 0 _ (zr ⟨rfl,rfl⟩);have cd:=N.old 8 _ (zu ⟨rfl,rfl⟩);obtain⟨S,Y⟩:=N.j;have es:∀n,n≠17->n≠20->n≠23->upd D n 17=D 17/\upd D n 20=D 20/\upd D n 23=D 23:=fun n I h2 h3=>⟨qy (yA I),qy (yA h2),qy (yA h3)⟩;have Z:∀n,n≠17->n≠20->n≠23->yQ (fun i=>i=gf) wr u/\u.heap[gf]?=some (.cells (fsR (.pointer (some a)) (gl,()) (if upd D n 17=true then x.fo else s1.fo) (if upd D n 20=true then rv else aW) (if upd D n 23=true then .slice (some ⟨gn,0,none⟩) 32 cn else aT) (.map (some L)) (.map (some bh))) 111):=fun n I h2 h3=>by obtain⟨e1,e2,e3⟩:=es n I h2 h3;rw[e1,e2,e3];exact⟨S,Y⟩
         match i,m,P,B with
         | 0,m,P,B=>
          simp only[zk,zw]at m;subst m;exact qD (.tmp 8) rfl ⟨_,rfl,(fun d=>zY d (by decide)),cd,fun _ _ _=>Z 0 (by omega) (by omega) (by omega)⟩
         | 1,m,P,B=>
          simp only[zk,zl,zw]at m;subst m;exact qD (.tmp 8) rfl ⟨_,rfl,(fun d=>zY d (by decide)),cd,fun _ _ _=>Z 1 (by omega) (by omega) (by omega)⟩
         | 2,m,P,B=>
          simp only[zk,zl,zw]at m;subst m;exact qD (.tmp 8) rfl ⟨_,rfl,(fun d=>zY d (by decide)),cd,fun _ _ _=>Z 2 (by omega) (by omega) (by omega)⟩
         | 3,m,P,B=>
          simp only[zk,zl,zw]at m;subst m;exact qD (.tmp 0) rfl ⟨_,rfl,(fun d=>zY d (by decide)),hpt,fun _ _ _=>Z 3 (by omega) (by omega) (by omega)⟩
         | 4,m,P,B=>
          simp only[zk,zl,zw]at m;subst m;have e3:=N.fact 3 (B ⟨3,.data⟩ (by simp) rfl);exact mw (.tmp 118) rfl ⟨gt,0,none⟩ e3 ⟨_,rfl,(fun d=>zY d (by decide)),rfl,fun _ _ _=>Z 4 (by omega) (by omega) (by omega)⟩
         | 5,m,P,B=>
          simp only[zk,zl,zw]at m;subst m;have e4:=N.fact 4 (B ⟨4,.data⟩ (by simp) rfl);exact sV (v:=.pointer (some ⟨gt,1,none⟩)) (w':=u) (by unfold execOp;simp only[Act.eval];rw[show b.tmps.getD 119 undef=_ from e4];simp[go_sem]) ⟨_,rfl,(fun d=>zY d (by decide)),rfl,fun _ _ _=>Z 5 (by omega) (by omega) (by omega)⟩
         | 6,m,P,B=>
          simp only[zk,zl,zw]at m;subst m;have e5:=N.fact 5 (B ⟨5,.data⟩ (by simp) rfl);refine wp_load_mid 106 (.tmp 120) rfl gt 1 e5 A2.toList _ (NP ((S.block gt aX a1).trans c3.o) cY.o) forT rfl (by rw[yv,aE.o];exact forI) ?_;exact⟨_,rfl,(fun d=>zY d (by decide)),rfl,fun _ _ _=>Z 6 (by omega) (by omega) (by omega)⟩
         | 7,m,P,B=>
          simp only[zk,zl,zw]at m;subst m;exact qD (.tmp 0) rfl ⟨_,rfl,(fun d=>zY d (by decide)),hpt,fun _ _ _=>Z 7 (by omega) (by omega) (by omega)⟩
         | 8,m,P,B=>
          simp only[zk,zl,zw]at m;subst m;have e7:=N.fact 7 (B ⟨7,.data⟩ (by simp) rfl);exact mw (.tmp 122) rfl ⟨gt,0,none⟩ e7 ⟨_,rfl,(fun d=>zY d (by decide)),rfl,fun _ _ _=>Z 8 (by omega) (by omega) (by omega)⟩
         | 9,m,P,B=>
          simp only[zk,zl,zw]at m;subst m;have e8:=N.fact 8 (B ⟨8,.data⟩ (by simp) rfl);exact sV (v:=.pointer (some ⟨gt,193,none⟩)) (w':=u) (by unfold execOp;simp only[Act.eval];rw[show b.tmps.getD 123 undef=_ from e8];simp[go_sem]) ⟨_,rfl,(fun d=>zY d (by decide)),rfl,fun _ _ _=>Z 9 (by omega) (by omega) (by omega)⟩
         | 10,m,P,B=>
          simp only[zk,zl,zw]at m;subst m;have e9:=N.fact 9 (B ⟨9,.data⟩ (by simp) rfl);have d:=(S.cell aX a1).trans dq.o.1;exact sV (v:=rv) (w':=u) (by unfold execOp;simp only[Act.eval];rw[show b.tmps.getD 124 undef=_ from e9];simp[go_sem,d]) ⟨_,rfl,(fun d=>zY d (by decide)),rfl,fun _ _ _=>Z 10 (by omega) (by omega) (by omega)⟩
         | 11,m,P,B=>
          simp only[zk,zl,zw]at m;subst m;exact qD (.tmp 0) rfl ⟨_,rfl,(fun d=>zY d (by decide)),hpt,fun _ _ _=>Z 11 (by omega) (by omega) (by omega)⟩
         | 12,m,P,B=>
          simp only[zk,zl,zw]at m;subst m;have ff:=N.fact 11 (B ⟨11,.data⟩ (by simp) rfl);exact mw (.tmp 126) rfl ⟨gt,0,none⟩ ff ⟨_,rfl,(fun d=>zY d (by decide)),rfl,fun _ _ _=>Z 12 (by omega) (by omega) (by omega)⟩
         | 13,m,P,B=>
          simp only[zk,zl,zw]at m;subst m;have eM:=N.fact 12 (B ⟨12,.data⟩ (by simp) rfl);exact sV (v:=.pointer (some ⟨gt,194,none⟩)) (w':=u) (by unfold execOp;simp only[Act.eval];rw[show b.tmps.getD 127 undef=_ from eM];simp[go_sem]) ⟨_,rfl,(fun d=>zY d (by decide)),rfl,fun _ _ _=>Z 13 (by omega) (by omega) (by omega)⟩
         | 14,m,P,B=>
          simp only[zk,zl,zw]at m;subst m;have eU:=N.fact 13 (B ⟨13,.data⟩ (by simp) rfl);have d:=(S.cell aX a1).trans dq.o.2;exact sV (v:=(.slice (some ⟨gn,0,none⟩) 32 cn)) (w':=u) (by unfold execOp;simp only[Act.eval];rw[show b.tmps.getD 128 undef=_ from eU];simp[go_sem,d]) ⟨_,rfl,(fun d=>zY d (by decide)),rfl,fun _ _ _=>Z 14 (by omega) (by omega) (by omega)⟩
         | 15,m,P,B=>
          simp only[zk,zl,zw]at m;subst m;have e0:=N.fact 0 (B ⟨0,.data⟩ (by simp) rfl);exact mw (.tmp 115) rfl ⟨gf,0,none⟩ e0 ⟨_,rfl,(fun d=>zY d (by decide)),rfl,fun _ _ _=>Z 15 (by omega) (by omega) (by omega)⟩
         | 16,m,P,B=>
          simp only[zk,zl,zw]at m;subst m;have ez:=N.fact 15 (B ⟨15,.data⟩ (by simp) rfl);exact sV (v:=.pointer (some ⟨gf,2,none⟩)) (w':=u) (by unfold execOp;simp only[Act.eval];rw[show b.tmps.getD 130 undef=_ from ez];simp[go_sem]) ⟨_,rfl,(fun d=>zY d (by decide)),rfl,fun _ _ _=>Z 16 (by omega) (by omega) (by omega)⟩
         | 17,m,P,B=>
          simp only[zk,zl,zw]at m;subst m;have dR:=N.fact 16 (B ⟨16,.data⟩ (by simp) rfl);have e6:=N.fact 6 (B ⟨6,.data⟩ (by simp) rfl)
          skip
          refine Hh 106 (.tmp 131) (.tmp 121) rfl gf 2 A2 dR e6 _ _ (fsR (.pointer (some a)) (gl,()) x.fo (if D 20=true then rv else aW) (if D 23=true then .slice (some ⟨gn,0,none⟩) 32 cn else aT) (.map (some L)) (.map (some bh))) Y (by rw[aE.o];exact forI) (by rw[aE.o,jG];omega) dj.o (by rw[bu.o];exact Mr _ _ _ _ _ _ _ _) ?_;refine⟨_,rfl,fun _=>rfl,rfl,fun _ _ _=>⟨S.step (yQ.setRow (F:=fun i=>i=gf) rfl _),?_⟩⟩;rw[Vs,ze rfl,qy (by omega),qy (by omega)];exact yh _ _ _ _ _ _ Y
         | 18,m,P,B=>
          simp only[zk,zl,zw]at m;subst m;have e1:=N.fact 1 (B ⟨1,.data⟩ (by simp) rfl);exact mw (.tmp 116) rfl ⟨gf,0,none⟩ e1 ⟨_,rfl,(fun d=>zY d (by decide)),rfl,fun _ _ _=>Z 18 (by omega) (by omega) (by omega)⟩
         | 19,m,P,B=>
          simp only[zk,zl,zw]at m;subst m;have ey:=N.fact 18 (B ⟨18,.data⟩ (by simp) rfl);exact sV (v:=.pointer (some ⟨gf,194,none⟩)) (w':=u) (by unfold execOp;simp only[Act.eval];rw[show b.tmps.getD 132 undef=_ from ey];simp[go_sem]) ⟨_,rfl,(fun d=>zY d (by decide)),rfl,fun _ _ _=>Z 19 (by omega) (by omega) (by omega)⟩
         | 20,m,P,B=>
          simp only[zk,zl,zw]at m;subst m;have fd:=N.fact 19 (B ⟨19,.data⟩ (by simp) rfl);have dY:=N.fact 10 (B ⟨10,.data⟩ (by simp) rfl);subst ex;refine Hi 107 (.tmp 133) (.tmp 125) rfl gf 194 fk dP dU fd dY (by kernel_rfl) _ _ Y (by rw[jG];omega) ?_;refine⟨_,rfl,fun _=>rfl,rfl,fun _ _ _=>⟨S.step (yQ.setCell (F:=fun i=>i=gf) (p:=⟨gf,194,none⟩) rfl _),?_⟩⟩;rw[Vs,ze rfl,qy (by omega),qy (by omega),<-Qn _ _ _ (if D 20=true then _ else aW) _ _ _ _];exact yb _ _ 194 _ _ _ Y
         | 21,m,P,B=>
          simp only[zk,zl,zw]at m;subst m;have e2:=N.fact 2 (B ⟨2,.data⟩ (by simp) rfl);exact mw (.tmp 117) rfl ⟨gf,0,none⟩ e2 ⟨_,rfl,(fun d=>zY d (by decide)),rfl,fun _ _ _=>Z 21 (by omega) (by omega) (by omega)⟩
         | 22,m,P,B=>
          simp only[zk,zl,zw]at m;subst m;have ek:=N.fact 21 (B ⟨21,.data⟩ (by simp) rfl);exact sV (v:=.pointer (some ⟨gf,195,none⟩)) (w':=u) (by unfold execOp;simp only[Act.eval];rw[show b.tmps.getD 134 undef=_ from ek];simp[go_sem]) ⟨_,rfl,(fun d=>zY d (by decide)),rfl,fun _ _ _=>Z 22 (by omega) (by omega) (by omega)⟩
         | 23,m,P,B=>
          simp only[zk,zl,zw]at m;subst m;have dS:=N.fact 22 (B ⟨22,.data⟩ (by simp) rfl);have dW:=N.fact 14 (B ⟨14,.data⟩ (by simp) rfl);refine Hi 108 (.tmp 135) (.tmp 129) rfl gf 195 (some ⟨gn,0,none⟩) 32 cn dS dW (by kernel_rfl) _ _ Y (by rw[jG];omega) ?_;refine⟨_,rfl,fun _=>rfl,rfl,fun _ _ _=>⟨S.step (yQ.setCell (F:=fun i=>i=gf) (p:=⟨gf,195,none⟩) rfl _),?_⟩⟩;rw[Vs,ze rfl,qy (by omega),qy (by omega),<-OK _ _ _ _ (if D 23=true then _ else aT) _ _ _];exact yb _ _ 195 _ _ _ Y
        .intro D b u N aA;obtain⟨S,Y⟩:=N.j;rw[ze (aA 17 (by simp)),ze (aA 20 (by simp)),ze (aA 23 (by simp))]at Y;rename_i K hK;refine hK _ _ (wp_seq (wp_region_lit (tf rfl fun K2 eN=>Jm (.const (.int .i64 0)) rfl (eN _ _ ?_))));have e3:(b.put (some 2) (.int .i64 0)).tmps[2]?=some (.int .i64 0):=(by show (b.tmps.setIfInBounds 2 (.int .i64 0))[2]?=_;rw[yM,ze rfl,ze (by rw[N.size];omega)]);refine wp_ret ?_;have cs:=(bV.o.mono fun i _ z=>zr z).step (S.mono fun i _ z=>zu z);have aH:yQ F' wc u:=cs.mono fun i _ z=>by
          rcases z with z|z
          .rw[z];exact f.o.2.2.2.2.2.1
          .rw[z];exact a3.o.1
         have fn:=xR bT.o;have eC:L≠gf:=fun d=>tQ J.o Q.o d.symm;have eh:=tC aP.o J.o (by decide);have df:bh≠gf:=fun d=>tQ J.o f.o.2.2.2.2.2.2.2.2.1 d.symm;have c7:∀i,T3 i->¬F' i:=fun i z=>(ai.o i z).1;have cV:∀g,g<wc.heap.size->g≠L->g≠gf->u.heap[g]?=wc.heap[g]? :=fun g I h2 h3=>cs.block g I (fun d=>d.elim h2 h3);have cQ:FsAt u gf {s1 with fo:=x.fo,rows:=x.rows,nodes:=x.nodes,todo:=uR s1.todo (tE x s)} F' a:=by
          refine⟨⟨gl,rv,.slice (some ⟨gn,0,none⟩) 32 cn,L,bh,E,uR O dn,(fun i=>FD i/\i≠gf),Y,?_,fun i z=>f.o.2.1 i z.1,fun d=>f.o.2.2.1 d.1,?_,f.o.2.2.2.1,?_,?_,?_,?_,?_,f.o.2.2.2.2.2.1,f.o.2.2.2.2.2.2.1,fun d=>f.o.2.2.2.2.2.2.2.1 d.1,?_,f.o.2.2.2.2.2.2.2.2.2.1,fun d=>f.o.2.2.2.2.2.2.2.2.2.2 d.1⟩,a3.o.1,cw.o.1,fun i z=>zo (a3.o.2.1 i z) aH.size,a3.o.2.2.1,a3.o.2.2.2.1,a3.o.2.2.2.2,cw.o.2⟩
          .exact (f.o.1.without J.o (by decide) (by decide) (by decide)).keep cs fun i z d=>by
            rcases d with d|d
            .rw[d]at z;exact f.o.2.2.2.2.2.2.2.1 z.1
            .exact z.2 d
          .exact (cV gl U.o.2.2.2.2 (fun d=>tQ aP.o Q.o d) eh).trans aP.o
          .exact (M.o.rows.grow fun i _ z=>zr z).keep aH
          .have hE:E.length=32:=(by rw[M.o.nds.1];exact cw.o.1);have I:=fq (G:=F') M.o.own (fun b hb=>by injection hb with hb;rw[<-hb];exact c7 _ M.o.tn);rw[hE];exact (I.keep aH).mono fun w' eD=>wh.of_owns eD
          .exact (M.o.nds.grow fun i _ z=>zr z).keep aH
          .exact bs.o.of_block (S.block L bs.o.lt eC)
          .have e:uR s1.todo (tE x s)=uR s1.todo (dn.map fun y=>(y.1,(getZ (tE x s) y.1).getD [])):=by
            have I:=NS (put:=tE x s) ([]:List Int) M.o.secs.1 M.o.puts.2.1;have h2:(dn.map fun y=>(y.1,(getZ (tE x s) y.1).getD ([]))).Perm (tE x s):=by
             have:=hp.map fun y=>(y.1,(getZ (tE x s) y.1).getD ([]:List Int))
             rwa [I]at this
            refine (IE h2 ?_).symm;rw[vr];exact a5.o.2.2.1
           rw[e];exact cO.o.keep fun g cc h9 d=>⟨S.block g (xR d) (fun eY=>by rw[eY,bT.o]at d;injection d with d;injection d with _ d;exact zY d (by decide)),h9⟩
          .exact f.o.2.2.2.2.2.2.2.2.1.of_block (cV bh f.o.2.2.2.2.2.2.2.2.1.lt (yA f.o.2.2.2.2.2.2.1) df)
         refine yV (v:=.int .i64 0) ?_ N.dfs ⟨rfl,F',by rw[em.o];exact cQ,c4.o,eg.o.trans aH fun i z=>c4.o i z⟩
         .simp[results,results120,go_sem,e3];intro d;have:=N.size;omega
