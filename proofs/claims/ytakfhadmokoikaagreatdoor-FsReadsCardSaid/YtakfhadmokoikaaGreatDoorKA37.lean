import Derived.Test.YtakfhadmokoikaaGreatDoorKA35
import Derived.Test.YtakfhadmokoikaaGreatDoorKA36
set_option maxHeartbeats 0
set_option linter.all false
set_option maxRecDepth 100000
namespace Go.Proofs.YtakfhadmokoikaaGreatDoor
open Go.Proofs.Tryz Go.RowKit
variable {F:Nat->Prop} {w:World}
def sA (x:Tx) (j:Nat):Bool:=(getZ x.dirty (2*(j:Int)+1)).isSome||(getZ x.dirty (2*(j:Int)+2)).isSome
def pW (k:Nat) (x:Tx) (j:Nat):Tx:={x.wow (ownU x.ow k (x.fo.nd 0 j)).2 with fo:=ndF (ownU x.ow k (x.fo.nd 0 j)).2.fo j (ownU x.ow k (x.fo.nd 0 j)).1}
def vT (k:Nat) (x:Tx):Nat->Tx
 | 0=>x
 | j+1=>if sA x j=true then pW k (vT k x j) j else vT k x j
def rn (x:Tx):Nat->List (Int×List Int)
 | 0=>x.put
 | j+1=>if sA x j=true then putZ (rn x j) (x.fo.nd 0 j) (rL (x.nodes.getD (2*j) zN)++rL (x.nodes.getD (2*j+1) zN)) else rn x j
def jW (x:Tx):Tx:={x with put:=rn x 16}
def endT (k:Nat) (x:Tx):Tx:=pP (jW (vT k x 16)) x.gone.length
theorem V1 (k:Nat) (x:Tx):∀j,(vT k x j).nodes=x.nodes/\(vT k x j).dirty=x.dirty/\(vT k x j).put=x.put/\(vT k x j).gone=x.gone/\(vT k x j).rows=x.rows
 | 0=>⟨rfl,rfl,rfl,rfl,rfl⟩
 | j+1=>by
  have a:=V1 k x j;unfold vT;split
  .exact a
  .exact a
theorem Yc (o:Ow) (k:Nat) (p:Int):(ownU o k p).2.fo.nd=o.fo.nd:=by
 have a:∀o:Ow,(qz o k).2.fo.nd=o.fo.nd:=fun o=>by
  unfold qz;cases jg o.fo k with
  | none=>rfl
  | some n=>rfl
 unfold ownU;split
 .exact a o
 .split
  .exact a _
  .rfl
theorem XN {k:Nat} {x:Tx} (s:k<=256) (t:256<=x.fake) (u:∀i,i<16->0<=x.fo.nd 0 i/\x.fo.nd 0 i<=x.fake):∀j,j<=16->256<=(vT k x j).fake/\x.fake<=(vT k x j).fake/\(vT k x j).fake<=x.fake+j/\(∀i,i<16->0<=(vT k x j).fo.nd 0 i/\(vT k x j).fo.nd 0 i<=(vT k x j).fake)/\∀i,j<=i->(vT k x j).fo.nd 0 i=x.fo.nd 0 i
 | 0,_=>⟨t,wO _,by show x.fake<=_;omega,u,fun _ _=>rfl⟩
 | j+1,r=>by
  obtain⟨a,b,c,d,e⟩:=XN s t u j (by omega);unfold vT;split
  .obtain⟨n,l,h,q⟩:=Yd (o:=(vT k x j).ow) (p:=(vT k x j).fo.nd 0 j) s a (d j (by omega));have f:=Yc (vT k x j).ow k ((vT k x j).fo.nd 0 j);have m:(vT k x j).ow.fk=(vT k x j).fake:=rfl;refine⟨wN a h,wN b h,?_,fun i g=>?_,fun i g=>?_⟩
   .show (ownU (vT k x j).ow k ((vT k x j).fo.nd 0 j)).2.fk<=_;omega
   .show 0<=(if 0=0/\i=j then (ownU (vT k x j).ow k ((vT k x j).fo.nd 0 j)).1 else (ownU (vT k x j).ow k ((vT k x j).fo.nd 0 j)).2.fo.nd 0 i)/\(if 0=0/\i=j then (ownU (vT k x j).ow k ((vT k x j).fo.nd 0 j)).1 else (ownU (vT k x j).ow k ((vT k x j).fo.nd 0 j)).2.fo.nd 0 i)<=(ownU (vT k x j).ow k ((vT k x j).fo.nd 0 j)).2.fk;split
    .exact⟨n,l⟩
    .rw[f];exact⟨(d i g).1,wN (d i g).2 h⟩
   .show (if 0=0/\i=j then (ownU (vT k x j).ow k ((vT k x j).fo.nd 0 j)).1 else (ownU (vT k x j).ow k ((vT k x j).fo.nd 0 j)).2.fo.nd 0 i)=_;rw[zb (by omega),f];exact e i (by omega)
  .exact⟨a,b,by omega,d,fun i g=>e i (by omega)⟩
theorem txR_nd (f:Value) (fo:Fo) (rv g h k gv:Value) (e:Bool) (fake:Int) (j:Nat) (l:j<16) (p:Int):(txR f fo rv g h k gv e fake).setIfInBounds (1+j) (.int .i64 p)=txR f (ndF fo j p) rv g h k gv e fake:=by
 refine Z4 (by simp[qY]) fun i d=>?_;rw[yO,qY,qf _ _ _ _ _ _ _ _ _ _ d];unfold pL;by_cases c:1+j=i
 .subst c;rw[ze rfl,ze (by omega),zb (by omega),ze (by omega)];unfold uO ndF;rw[show (1+j-1) / 48=0 by omega,show (1+j-1)%48=j by omega,ze l];simp
 .rw[zb c];by_cases a:i=0
  .rw[ze a,ze a]
  .rw[zb a,zb a];by_cases b:i<193
   .rw[ze b,ze b];unfold uO ndF;split
    .dsimp only;rw[zb (by omega)]
    .rfl
   .rw[zb b,zb b]
theorem J4 (x:Tx):∀j,(rn x j).length<=x.put.length+j
 | 0=>zL
 | j+1=>by
  have a:=J4 x j;unfold rn;split
  .have:=oS (x.fo.nd 0 j) (rL (x.nodes.getD (2*j) zN)++rL (x.nodes.getD (2*j+1) zN)) (rn x j);omega
  .omega
theorem J1 {α:Type} (k:Int) (v:α):∀{l:List (Int×α)},se l->(putZ l k v).length=if hasZ l k=true then l.length else l.length+1
 | [],_=>rfl
 | y::r,h=>by
  have d:=J1 k v h.tail;unfold hasZ at *
  unfold putZ getZ;by_cases b:k<y.1
  .have a:getZ r k=none:=by
    cases c:getZ r k with
    | none=>rfl
    | some z=>exact yb (h.head _ (nt c)) (by show ¬y.1<k;omega)
   rw[ze b,zb (show ¬y.1=k by omega),a];rfl
  .rw[zb b];by_cases a:k=y.1
   .rw[ze a,ze a.symm];rfl
   .rw[zb a,zb (yF a),yz,d];split<;>rfl
theorem XK {α β:Type} (k:Int) (v:α) (u:β):∀{l:List (Int×α)} {m:List (Int×β)},l.map (·.1)=m.map (·.1)->(putZ l k v).map (·.1)=(putZ m k u).map (·.1)
 | [],[],_=>rfl
 | [],_::_,h=>by cases h
 | _::_,[],h=>by cases h
 | y::l,z::m,h=>by
  simp only[yI,tM]at h;unfold putZ;rw[h.1];split
  .simp only[yI,h.1,h.2]
  .split
   .simp only[yI,h.2]
   .simp only[yI,h.1,XK k v u h.2]
theorem J8 {α β:Type}:∀{p:List (Int×α)} {q:List (Int×β)} {t:List (Int×α)} {u:List (Int×β)},p.map (·.1)=q.map (·.1)->t.map (·.1)=u.map (·.1)->(uN t p).map (·.1)=(uN u q).map (·.1)
 | [],[],_,_,_,h=>h
 | [],_::_,_,_,h,_=>by cases h
 | _::_,[],_,_,h,_=>by cases h
 | y::p,z::q,t,u,h,a=>by simp only[yI,tM]at h;show (uN (putZ t y.1 y.2) p).map _=(uN (putZ u z.1 z.2) q).map _;refine J8 h.2 ?_;rw[h.1];exact XK _ _ _ a
theorem KN {α:Type}:∀{p t:List (Int×α)},se t->se (uN t p)
 | [],_,h=>h
 | y::p,_,h=>KN (p:=p) (Zk y.1 y.2 h)
theorem IR {α:Type} {k:Int}:∀{p t:List (Int×α)},(∀y∈p,y.1≠k)->getZ (uN t p) k=getZ t k
 | [],_,_=>rfl
 | y::p,t,h=>by show getZ (uN (putZ t y.1 y.2) p) k=_;rw[IR fun z a=>h z (xh _ a),lu _ (yF (h y xx))]
theorem pZ.put {pl:List (Int×Value)} {l:List (Int×List Int)} (h:pZ w F pl l) {k:Int} {v:Value} {D:List Int} (c:su w 0 v D) (d:∀g,v.ownBlock=some g->¬F g):pZ w F (putZ pl k v) (putZ l k D):=
 ⟨te.put c h.sec,fun y a g b=>by
  rcases ms a with rfl|a
  .exact d g b
  .exact h.out y a g b⟩
structure kK (s:Fs):Prop where
 g:mX s.k (wrOf s.todo)
 k:∀y∈s.todo,0<=y.1/\y.1<256
 q:0<=s.sq/\s.sq<=1000
 w:s.dk.W.length<800000
def pj (x:Tx) (s:Fs):Fs:=if 30<(uN s.todo (tq x s)).length then mB s else s
def mn (x:Tx) (s:Fs):Fs:={pj x s with fo:=x.fo,rows:=x.rows,nodes:=x.nodes,todo:=uN (pj x s).todo (tq x s)}
structure KeepJ (w0:World) (gt gf:Nat) (x:Tx) (s s1:Fs) (a:Addr) (F1:Nat->Prop) (W:World):Prop where
 ex:∃F' T3 rv gn cn gd gp gv E pl,FsAt W gf s1 F' a/\uP W w0 F' T3 gt (gf,()) {x with put:=tq x s} rv gn cn gd gp gv E pl/\(∀i,T3 i->¬F' i/\i<W.heap.size)/\pZ W F' pl (tq x s)/\(∀i,F' i->F1 i\/w0.heap.size<=i)/\T3 gt
 keeps:yK F1 w0 W
theorem Jp {α:Type} (t p:List (Int×α)) (k:Int) (v:α):uN t (p++[(k,v)])=putZ (uN t p) k v:=by unfold uN;rw[xF];rfl
theorem rA.done_len {P:Program} {K:TypeId} {b r:Nat} {l done:List (Int×Value)} {cnt:Nat} (h:rA P K w b r l done cnt):done.length<=l.length:=by obtain⟨_,_,d,c,_⟩:=h;have:=Zm (ys:=l.map (·.1)) d (fun z e=>by obtain⟨y,a,rfl⟩:=zV.1 e;exact zV.2 ⟨y,c y a,rfl⟩);simpa using this
theorem Sb {w0:World} {F1 T:Nat->Prop} {gt gf:Nat} {x:Tx} {s:Fs} {a:Addr} (hf:FsAt w0 gf s F1 a) (hb:Below w0 w0 w) (h:TxAt w w0 F gt (gf,()) x T) (ag:∀i,F1 i->F i)
 (hr:rV x.fo=0) (hq:sf x.rows=0) (ao:s.todo.length<=1000) (hpt:x.put.length<=890) (hs:30<(uN s.todo (tq x s)).length->kK s):
 Calls prog 86 #[(gt,())] w
  (fun e w'=>e=.returned ()/\∃F',FsAt w' gf (mn x s) F' a/\(∀i,F' i->F1 i\/w0.heap.size<=i)/\yK F1 w0 w'):=by
 have H:=Lib.hid h;have HF:=Lib.hid hf;have da:=Lib.hid hb;obtain⟨rv,gn,cn,gd,V,gv,E,pl,X⟩:=h.lies;obtain⟨c0,ay,ba,aA,ae,bb,aZ,a9⟩:=sZ X.row;have HL:=Lib.hid X;have cT:Hid (5<=s.k):=Lib.hid (zr (by omega) hf.k0);have d4:=Lib.hid ao;have cB:=Lib.hid hpt;have ev:=Lib.hid hs;obtain⟨A,HA⟩:=zA (encF x.fo);have eP:Hid (A.size=192):=by rw[HA.o];exact uh _
 obtain⟨R,HR⟩:=zD (txR (gf,()) x.fo rv (.slice (some ⟨gn,0,none⟩) 32 cn) (.map (some gd)) (.map (some V)) gv x.full x.fake);have cO:Hid (∀j,j<A.size->R[1+j]?=A[j]?):=by rw[<-HR.o,HA.o];exact gQ _ _ _ _ _ _ _ _ _
 have aH:=X.row;rw[HR.o]at aH;have aJ:=Lib.hid aH;have d3:Hid (∀W:World,Calls prog 90 #[.agg A] W (WL x.fo W)):=fun W=>by rw[HA.o];exact Kz _ hr W
 have c6:Hid (∀W:World,Below w w W->Calls prog 102 #[rv] W (LW x.rows W)):=fun W hW=>Jl rv x.rows W (X.rows.now.below hW) hq;have eT:=(Zj hq).1;clear h hf hb X hr hq aH hs;go_enter func86,ntmps86;go_wp2_with (refine pR (by kernel_rfl) 95 (.tmp 19) rfl gt 1 rfl 150 R A (0,0) _ aJ.o cO.o forT rfl (by rw[eP.o];exact forI) ?_)
 refine (d3.o w).mono ?_;rintro e w1 ⟨v1,rfl,cS,dF⟩;obtain⟨_,⟨_,h0⟩|⟨g1,eG,fs,rfl,eH,bH,eZ,_,_,d7⟩⟩:=id cS
 .omega
 have bv:=Lib.hid dF;have eL:=Lib.hid bH;have fe:=Lib.hid d7;have eQ:Hid (w.heap.size<=g1/\g1<w1.heap.size):=⟨by omega,xL bH⟩;clear cS dF bH d7 eH;have cx:=(bv.o.cell (p:=⟨gt,193,none⟩) (xL aJ.o)).trans ay;go_wp2_with fail
 refine (c6.o w1 bv.o).mono ?_;rintro e w2 ⟨g2,rfl,db,ch,cf⟩;have dj:Hid (Below w w w2):=Below.step bv.o cf;have ec:=Lib.hid ch;have bD:=Lib.hid (we cf eL.o);have cv:Hid (w.heap.size<=g2/\g2<w2.heap.size/\g1<w2.heap.size):=⟨zr bv.o.size db,xL ch,xL bD.o⟩;clear db ch cf c0 ay cx ba aA ae bb aZ a9;have cL:=Lib.hid (H.o.below dj.o);have af:Hid (Below w0 w0 w2):=da.o.trans (dj.o.mono da.o.size);go_wp2;go_loopw [38] (fun iv wr=>∃j:Nat,j<=3/\iv=.int .i64 j/\Hid (vS w0 F gt (gf,()) {x with put:=dfK s (uC x.fo) x.put j} T w2 wr)) (fun iv _=>3-(intOf iv).toNat);case atStart=>exact⟨0,by omega,rfl,vS.same cL.o zB⟩
 case round=>
  obtain⟨j,hj,rfl,HD⟩:=hrel;by_cases eu:j<3
  .obtain⟨T1,t1,t2,t3,t4⟩:=HD.o;have ak:=Lib.hid t3;have a8:=Lib.hid t2;have bZ:=Lib.hid t4;have bG:¬T g1:=fun d=>(by have:=H.o.fin g1 d;have:=eQ.o.1;omega);have aK:Below w0 w0 wr:=af.o.trans (t3.to_below H.o.new af.o.size);have aE:=(t3.block g1 cv.o.2.2 bG).trans bD.o;have ai:vC wr (.slice (some (g1,64*j)) 64 (eG-64*j)) (sec (uC x.fo) j):=ZF (_base:=0) (_c:=0) (fj _) aE (by simpa using fe.o) (64*j) 64 _ (by omega);have dz:(sec (uC x.fo) j).length=64:=mD (k:=3) (fj _) eu;have ar:=Lib.hid (XA HF.o aK t1 (1+j) (by have:=cT.o;omega) _ _ ai dz (by have:=Gh s (uC x.fo) x.put j;show (dfK s (uC x.fo) x.put j).length<900;omega));have i1:=zW (64*(j:Int));have i2:=zW ((j:Int)+1);have i3:=zW (64*((j:Int)+1));have i4:=zW (1+(j:Int));have i5:((1+j:Nat):Int)=1+(j:Int):=(by omega);rw[i5]at ar;have fm:(j:Int)<3:=(by omega);clear t1 t2 t3 t4 aK aE ai dz bG;go_wp2_with fail
   rw[show 64*(j+1)-64*j=64 by omega];refine ar.o.mono ?_;rintro e Y ⟨rfl,T3,u1,u2,u3,u4⟩;have eE:Hid (vS w0 F gt (gf,()) {x with put:=dfK s (uC x.fo) x.put (j+1)} T w2 Y):=by
    refine⟨T3,?_,fun r hr=>?_,ak.o.trans u3 a8.o,fun r hr=>u4 r (bZ.o r hr)⟩
    .have e:dfK s (uC x.fo) x.put (j+1)=if eqB (secE s (1+j)) (sec (uC x.fo) j)=true then dfK s (uC x.fo) x.put j else putZ (dfK s (uC x.fo) x.put j) (1+(j:Int)) (sec (uC x.fo) j):=by
      conv=>lhs;unfold dfK
      rw[i5]
     rw[e];exact u1
    .rcases u2 r hr with I|I
     .exact a8.o r I
     .exact zu (zr ak.o.size I)
   clear u1 u2 u3 u4 ar;go_wp2;go_roundw;case rel=>exact⟨j+1,by omega,by go_num,eE⟩
   case measure=>simp[intOf];omega
  .obtain rfl:j=3:=(by omega);obtain⟨T1,t1,t2,t3,t4⟩:=HD.o;have ak:=Lib.hid t3;have a8:=Lib.hid t2;have bZ:=Lib.hid t4;have b8:¬T g2:=fun d=>(by have:=H.o.fin g2 d;have:=cv.o.1;omega);have aK:Below w0 w0 wr:=af.o.trans (t3.to_below H.o.new af.o.size);have aE:=(t3.block g2 cv.o.2.1 b8).trans ec.o;have bl:(sr x.rows.length x.rows).length=64:=WO _ _ eT;have ai:vC wr (.slice (some ⟨g2,0,none⟩) 64 64) (sr x.rows.length x.rows):=qZ bl aE (by show (u8s (sr x.rows.length x.rows)).toArray.toList.take 64=u8s (sr x.rows.length x.rows);rw[xV,zv (by rw[vO,bl];exact zL)]);have ar:=Lib.hid (XA HF.o aK t1 4 (by have:=cT.o;omega) _ _ ai bl (by have:=Gh s (uC x.fo) x.put 3;show (dfK s (uC x.fo) x.put 3).length<900;omega));rw[show ((4:Nat):Int)=4 from rfl]at ar;clear t1 t2 t3 t4 aK aE ai bl b8;go_wp2_with fail
   refine ar.o.mono ?_;rintro e Y ⟨rfl,T3,u1,u2,u3,u4⟩;have df:Hid (TxAt Y w0 F gt (gf,()) {x with put:=tq x s} T3):=u1;have ct:Hid (Below w0 w0 Y):=(by have hk:=ak.o.trans u3 a8.o;exact af.o.trans (hk.to_below H.o.new af.o.size));clear u1 u2 u3 u4 ar HD ak a8 bZ aJ cO d3 c6 cL HR HL;obtain⟨rv,gn,cn,gd,V,gv,E,pl,X⟩:=df.o.lies;obtain⟨c0,ay,ba,aA,ae,bb,aZ,a9⟩:=sZ X.row;obtain⟨⟨gl,aX,aU,L,bh,E',O,FD,f1,f2,f3,f4,f5,f6,f7,f8,f9,al,am,bs,bp,b5,bi,b3,b4⟩,bm,bM,bj,bk,b0,b1,cg⟩:=HF.o.below ct.o;obtain⟨d0,d1,de,dA,b9,dq⟩:=nu f1;have fO:=al.len (T:=98) mz 3;have Q:=Lib.hid al;have cu:=Lib.hid X.puts;have cJ:O.length=s.todo.length:=am.len;have dW:pl.length<=x.put.length+4:=(by rw[X.secs.len];have q1:=iS s (sr x.rows.length x.rows) (dfK s (uC x.fo) x.put 3);have q2:=Gh s (uC x.fo) x.put 3;show (tq x s).length<=_;unfold tq;omega);have aV:Hid (O.length+pl.length<=2000):=Lib.hid (by have:=d4.o;have:=cB.o;omega);have fM:=Lib.hid am;have fh:Hid ((uN O pl).length=(uN s.todo (tq x s)).length):=(by have:=congrArg List.length (J8 X.secs.1 am.sec.1);show _=_;simpa using this);have M:=Lib.hid X;have fg:=Lib.hid df.o;have aQ:=Lib.hid f5;have J:=Lib.hid f1;have U:Hid (gt<Y.heap.size/\gf<Y.heap.size/\V<Y.heap.size/\L<Y.heap.size/\gl<Y.heap.size):=⟨xL X.row,xL f1,X.puts.lt,al.lt,xL f5⟩;have HC:Hid (Y.cell? (gt,0)=some (.pointer (some ⟨gf,0,none⟩))/\Y.cell? (gt,196)=some (.map (some V))/\Y.cell? (gf,1)=some (.pointer (some ⟨gl,0,none⟩))/\Y.cell? (gf,196)=some (.map (some L))):=⟨c0,ae,d1,b9⟩;clear X f1 f2 f3 f4 f5 f6 f7 f8 f9 al am bs bp b5 bi b3 b4 bm bM bj bk b0 b1 cg ay ba aA bb aZ a9 d0 de dA dq;go_wp2_with (at_range;refine Ue _ rfl _ _ rfl 3 23 intT mz V pl rfl cu.o ?_;intro w4 cI cY em)
   have eb:Hid (Below Y Y w4):=xC zB cY zL (fun q hq=>by cases hq);have eA:=Lib.hid cI;clear cI cY em c0 ae d1 b9;simp only[Act.put,zM,yj,yh];go_loopw [9] (fun nv wr=>∃(c:Nat) (C:List (Int×Value)) (aL:Nat),nv=.int .i64 c/\Hid (c=(uN O C).length)/\Hid (rA prog 3 wr V Y pl C aL)/\Hid (Below Y Y wr)) (fun _ wr=>wr.rangeLeft V Y.heap.size);case atStart=>exact⟨s.todo.length,[],pl.length,rfl,cJ.symm,eA,eb⟩
   case round=>
    obtain⟨c,C,aL,rfl,bg,bc,ap⟩:=hrel;have bW:=bc.o.left_eq;have dE:=(ap.o.cell (p:=⟨gf,1,none⟩) U.o.2.1).trans HC.o.2.2.1;go_wp2_with (at_next;refine V8 _ rfl _ rfl 3 intT V _ pl C aL rfl bc.o (fun hp=>?qd) (fun xk c' w' a1 bL az a2 cr ad dh aw co eO=>?qm);(case' qm=>(have bC:=Lib.hid ad;have fK:(c:Int)<=3000:=(by have I:=bg.o;have h2:=KD O C;have h3:=bc.o.done_len;have:=aV.o;omega);have dp:=Lib.hid (J1 xk c' (KN (p:=C) Q.o.2.1));have dw:Hid (getZ (uN O C) xk=getZ O xk):=IR (fun y hy d=>a2 (by rw[<-d];exact zV.2 ⟨y,hy,rfl⟩));have bq:Hid (Below Y Y w'):=xC ap.o aw ap.o.size (fun q hq=>by injection hq with hq;omega);have dR:=(Q.o.of_block (bq.o.block _ Q.o.lt)).look_ok (k:=xk) intT mz (u8sZ w') bL;have eB:=(bq.o.cell (p:=⟨gf,196,none⟩) U.o.2.1).trans HC.o.2.2.2;have bE:=ad.left_eq;(cases ci:hasZ O xk)<;>(rw[ci]at dR;clear ad aw co az a2))))
    .go_roundw;case rel=>exact⟨c+1,_,a1,by go_num,by show _=_;rw[Jp,dp.o,hasZ,dw.o,show (getZ O xk).isSome=false from ci,zb (by simp),bg.o],bC,bq⟩
     case measure=>rw[bW,bE];omega
    .go_roundw;case rel=>exact⟨c,_,a1,rfl,by show _=_;rw[Jp,dp.o,hasZ,dw.o,show (getZ O xk).isSome=true from ci,ze rfl,bg.o],bC,bq⟩
     case measure=>rw[bW,bE];omega
    .have eJ:=hp.length_eq;have bS:Hid (c=(uN s.todo (tq x s)).length):=(by show _=_;rw[bg.o,<-fh.o];exact congrArg List.length (J7 hp bc.o.2.2.1));have cH:=Lib.hid (we ap.o aQ.o);have a3:gt≠gf:=tj M.o.row J.o (by decide);have be:Hid (Below w0 w0 wr):=ct.o.trans (ap.o.mono ct.o.size);have dy:=Lib.hid (HF.o.below be.o);have l:=Lib.hid (M.o.below ap.o);have aq:=Lib.hid (fg.o.below ap.o);have b2:Hid (∀i,F1 i->i<w0.heap.size):=HF.o.fin;have bf:Hid (pZ wr F1 pl (tq x s)):=⟨⟨l.o.secs.1,fun i I h2=>(l.o.secs.2 i I h2).mono zZ⟩,fun y hy g hg d=>by obtain⟨i,I,rfl⟩:=vn hy;obtain⟨g',fL,fx,e1,_,_,e4,_⟩:=l.o.secs.2 i I (by have:=l.o.secs.len;rw[<-this];exact I);rw[e1]at hg;injection hg with hg;have fP:g'=g:=hg;have:=b2.o g d;omega⟩;clear bc bW dE eJ hp
     go_upto_if 93 with (go_at_call 131;refine (S8 cH.o).mono ?_;rintro e w' ⟨rfl,rfl⟩)
     go_cut [0,8] (fun s0 s8 wx=>s0=.pointer (some ⟨gt,0,none⟩)/\s8=.pointer (some ⟨gf,0,none⟩)/\KeepJ w0 gt gf x s (pj x s) a F1 wx)
     case first=>
      by_cases aN:30<c
      .have bQ:30<(c:Int):=(by omega);have bP:Hid (pj x s=mB s):=(by show _=_;unfold pj;rw[ze (by rw[<-bS.o];exact aN)]);have aD:=ev.o (by rw[<-bS.o];exact aN);have cU:=Lib.hid (iL dy.o aD.g aD.k aD.q aD.w);clear aD;go_wp2_with fail
       refine cU.o.mono ?_;rintro e w6 ⟨rfl,cX,av⟩;have ea:=Lib.hid cX;have a5:=Lib.hid av;clear cX av;go_wp2
       go_meet
       case rel=>
        have fI:∀i,(F1 i\/(wr.heap.size<=i/\i<w6.heap.size))->F1 i\/wr.heap.size<=i:=fun i z=>z.imp id fun h=>h.1;have bo:∀b,b<wr.heap.size->w0.heap.size<=b->w6.heap[b]?=wr.heap[b]? :=fun b I h2=>a5.o.block b I fun d=>yb (b2.o b d) (xM h2);have an:∀i,T3 i->w0.heap.size<=i/\i<wr.heap.size:=fun i z=>⟨aq.o.new i z,aq.o.fin i z⟩;have bN:∀b,T3 b->w6.heap[b]?=wr.heap[b]? :=fun b hb=>bo b (an b hb).2 (an b hb).1;refine⟨rfl,rfl,⟨_,T3,rv,gn,cn,gd,V,gv,E,pl,by rw[bP.o];exact ea.o,⟨(bN gt aq.o.self).trans l.o.row,?_,?_,?_,l.o.dirt.of_block (bN gd l.o.td),l.o.puts.of_block (bN V l.o.tp),?_,l.o.ne,?_,l.o.tn,l.o.td,l.o.tp,l.o.tg⟩,fun i z=>⟨fun d=>?_,?_⟩,?_,fun i z=>?_,aq.o.self⟩,?_⟩
        .exact fZ l.o.rows (a5.o.mono fun i _ z=>zt (ag i z)) fun i z=>z.elim (fun h=>h.elim (fun h=>zt (zt (ag i h))) fun h=>zu h.1) fun h=>zt (zu h)
        .exact uV l.o.own fun b hb=>bo b (l.o.own.lt b hb).2 (l.o.own.lt b hb).1
        .exact iH l.o.nds (a5.o.mono fun i _ z=>zt (ag i z)) fun i z=>z.elim (fun h=>h.elim (fun h=>zt (zt (ag i h))) fun h=>zu h.1) fun h=>zt (zu h)
        .exact l.o.secs.keep fun g cc I d=>bo g (xL d) I
        .exact uV l.o.gone fun b hb=>bo b (l.o.gone.lt b hb).2 (l.o.gone.lt b hb).1
        .rcases d with d|d
         .exact yb (b2.o i d) (xM (an i z).1)
         .exact yb (an i z).2 (xM d.1)
        .exact zm (an i z).2 a5.o.size
        .exact bf.o.keep fun g cc I d=>⟨a5.o.block g (xL d) I,fun h2=>h2.elim I fun h3=>yb (xL d) (xM h3.1)⟩
        .exact z.imp id fun h=>zr be.o.size h.1
        .exact (yK.of_below be.o).step a5.o
      .have bQ:¬30<(c:Int):=(by omega);have bP:Hid (pj x s=s):=(by show _=_;unfold pj;rw[zb (by rw[<-bS.o];exact aN)]);go_wp2
       go_meet
       case rel =>exact⟨rfl,rfl,⟨F1,T3,rv,gn,cn,gd,V,gv,E,pl,by rw[bP.o];exact dy.o,⟨l.o.row,l.o.rows.grow fun i _ z=>z.imp (ag i) id,l.o.own,l.o.nds.grow fun i _ z=>z.imp (ag i) id,l.o.dirt,l.o.puts,l.o.secs,l.o.ne,l.o.gone,l.o.tn,l.o.td,l.o.tp,l.o.tg⟩,fun i z=>⟨fun d=>yb (b2.o i d) (xM (aq.o.new i z)),aq.o.fin i z⟩,bf.o,fun i z=>zt z,aq.o.self⟩,yK.of_below be.o⟩
     case rest=>
      obtain⟨rfl,rfl,⟨F',T3,rv,gn,cn,gd,V,gv,E,pl,dD,X,an,d8,c7,fu⟩,dt⟩:=hcut;obtain⟨s1,cb⟩:=zD (pj x s);have en:Hid (mn x s={s1 with fo:=x.fo,rows:=x.rows,nodes:=x.nodes,todo:=uN s1.todo (tq x s)}):=(by show _=_;rw[<-cb.o];rfl);rw[cb.o]at dD;obtain⟨⟨gl,aX,aU,L,bh,E',O,FD,f1,f2,f3,f4,f5,f6,f7,f8,f9,al,am,bs,bp,b5,bi,b3,b4⟩,bm,bM,bj,bk,b0,b1,cg⟩:=dD;have Q:=Lib.hid al;have cu:=Lib.hid X.puts;have dW:pl.length<=x.put.length+4:=(by rw[X.secs.len];have q1:=iS s (sr x.rows.length x.rows) (dfK s (uC x.fo) x.put 3);have q2:=Gh s (uC x.fo) x.put 3;show (tq x s).length<=_;unfold tq;omega);have cJ:O.length<=1000:=by
       rw[am.len,<-cb.o];unfold pj;split
       .exact ye _
       .exact d4.o
      have aV:Hid (O.length+pl.length<=2000):=Lib.hid (by have:=cB.o;omega);have M:=Lib.hid X;have ak:=Lib.hid an;have bf:=Lib.hid d8;have c5:=Lib.hid c7;have eh:=Lib.hid dt;have aQ:=Lib.hid f5;have J:=Lib.hid f1;have U:Hid (gt<wc.heap.size/\gf<wc.heap.size/\V<wc.heap.size/\L<wc.heap.size/\gl<wc.heap.size):=⟨xL X.row,xL f1,X.puts.lt,al.lt,xL f5⟩;have HC:Hid (wc.cell? (gf,196)=some (.map (some L))):=(nu f1).2.2.2.2.1;have f:Hid (uL wc (.pointer (some a)) s1.dk s1.k FD/\(∀i,FD i->F' i)/\¬FD gl/\F' gl/\pZ wc F' O s1.todo/\F' L/\L≠bh/\¬FD L/\MapL prog 3 wc bh (kh s1.held)/\F' bh/\¬FD bh):=⟨f2,f3,f4,f6,am,bs,bp,b5,bi,b3,b4⟩;have a4:Hid (F' gf/\(∀i,F' i->i<wc.heap.size)/\(s1.held.length<=1000/\∀y∈s1.held,0<=y.2/\y.2<=1000000)/\64<=s1.k/\s1.k<=256):=⟨bm,bj,bk,b0,b1⟩;have ae:=(sZ X.row).2.2.2.2.1;have cw:Hid (x.nodes.length=32/\x.rows.length<=20):=⟨H.o.len,H.o.rows⟩;clear X f1 f2 f3 f4 f5 f6 f7 f8 f9 al am bs bp b5 bi b3 b4 bm bM bj bk b0 b1 cg an d8 c7 dt;go_wp2_with (at_range;refine Ue _ rfl _ _ rfl 3 23 intT mz V pl rfl cu.o ?_;intro w5 cC dG eF)
      have ck:Hid (Below wc wc w5):=xC zB dG zL (fun q hq=>by cases hq);have dd:Hid (yK (fun i=>i=L) wc w5):=yK.of_below ck.o;have dC:=Lib.hid cC;obtain⟨r2,bO⟩:=zD wc.heap.size;have dP:Hid (MapL prog 3 w5 L (uN O [])):=Q.o.of_block (ck.o.block _ Q.o.lt);have dU:Hid (pZ w5 F' (uN O []) (uN s1.todo [])):=f.o.2.2.2.2.1.keep fun g cc I d=>⟨ck.o.block g (xL d),I⟩;rw[bO.o]at dC;have eS:wc.heap.size<=r2:=(by rw[bO.o];exact zL);have aP:Hid (L≠r2/\V≠L/\r2≠V):=⟨by have:=U.o.2.2.2.1;omega,fun d=>(ak.o V M.o.tp).1 (by rw[d];exact f.o.2.2.2.2.2.1),by have:=U.o.2.2.1;omega⟩;clear cC dG eF ae;simp only[Act.put,zM,yj,yh];rw[bO.o];go_loopw [14] (fun _ wq=>∃(C:List (Int×Value)) (aL:Nat),Hid (rA prog 3 wq V r2 pl C aL)/\Hid (yK (fun i=>i=L) wc wq)/\Hid (MapL prog 3 wq L (uN O C))/\Hid (pZ wq F' (uN O C) (uN s1.todo (C.map fun y=>(y.1,(getZ (tq x s) y.1).getD []))))) (fun _ wq=>wq.rangeLeft V r2);case atStart=>exact⟨[],_,dC,dd,dP,dU⟩
      case round=>
       obtain⟨dn,cA,a6,bV,bw,cP⟩:=hrel;have cM:=a6.o.left_eq;have du:∀W:World,yK (fun i=>i=L) wc W->W.cell? (gf,196)=some (.map (some L)):=fun W hk=>(hk.cell U.o.2.1 (fun d=>by have I:=J.o;exact tG I Q.o d)).trans HC.o;have ef:=Lib.hid du;clear du;have cN:(uN O dn).length<1000000:=(by have I:=KD O dn;have h2:=a6.o.done_len;have:=aV.o;omega);have fb:=Lib.hid cN;clear cN;have aB:∀(w':World),wr.grownBy w' (some r2)->yK (fun i=>i=L) wc w'/\w'.cell? (gf,196)=some (.map (some L))/\(∀b,b<wr.heap.size->b≠r2->w'.heap[b]?=wr.heap[b]?)/\MapL prog 3 w' L (uN O dn):=fun w' aw=>(by have cq:yK (fun i=>i=r2) wr w':=yK.grown (F:=fun i=>i=r2) aw (fun q hq=>by injection hq with hq;exact hq.symm);have aW:yK (fun i=>i=L) wc w':=bV.o.trans cq (fun i z=>zu (by rw[z];exact eS));exact⟨aW,ef.o w' aW,fun b I h2=>cq.block b I h2,bw.o.of_block (cq.block L bw.o.lt aP.o.1)⟩);have ew:=Lib.hid aB;clear aB;go_wp2_with (first
        | (at_next;refine V8 _ rfl _ rfl 3 intT V _ pl dn cA rfl a6.o (fun hp=>?qd2) (fun xk c' w' a1 bL az a2 cr ad dh aw co eO=>?qm2);(case' qm2=>(have ee:=Lib.hid az;have er:=Lib.hid bL;have eX:=Lib.hid dh;have bI:=Lib.hid ad;obtain⟨aW,eB,bA,cF⟩:=ew.o w' aw;have dY:=Lib.hid aW;have ek:=Lib.hid bA;have dB:=Lib.hid cF;clear ad aw co az a2 aW bA cF)))
        | (at_mapUpdate;refine K1 _ rfl _ _ _ _ rfl 3 23 intT mz L (uN O dn) xk c' rfl dB.o fb.o rfl rfl er.o ?_;intro w6 fc eV))
       .have av:yK (fun i=>i=L) w' w6:=yK.grown eV.grown (fun r hr=>by injection hr with hr;exact hr.symm);have d2:Hid (rA prog 3 w6 V r2 pl (dn++[(xk,c')]) a1):=bI.o.of_block (av.block V bI.o.map.lt aP.o.2.1) (av.block r2 bI.o.lt (yF aP.o.1));have cE:yK (fun i=>i=L) wc w6:=dY.o.step av;have e1:uN O (dn++[(xk,c')])=putZ (uN O dn) xk c':=(by unfold uN;rw[xF];rfl);have ed:Hid (MapL prog 3 w6 L (uN O (dn++[(xk,c')]))):=(by show _;rw[e1];exact fc);have ep:Hid (pZ w6 F' (uN O (dn++[(xk,c')])) (uN s1.todo ((dn++[(xk,c')]).map fun y=>(y.1,(getZ (tq x s) y.1).getD [])))):=by
         have e2:uN s1.todo ((dn++[(xk,c')]).map fun y=>(y.1,(getZ (tq x s) y.1).getD []))=putZ (uN s1.todo (dn.map fun y=>(y.1,(getZ (tq x s) y.1).getD []))) xk ((getZ (tq x s) xk).getD []):=(by unfold uN;rw[yB,xF];rfl);show _;rw[e1,e2];have bX:getZ pl xk=some c':=mJ a6.o.1 ee.o;rcases M.o.secs.get (k:=xk) with⟨q1,_⟩|⟨v,D,q1,q2,q3⟩
         .rw[bX]at q1;cases q1
         .rw[bX]at q1;injection q1 with q1;subst q1;have fi:getZ (tq x s) xk=some D:=q2;rw[fi];refine pZ.put (cP.o.keep fun g cc h9 d=>?_) ?_ ?_
          .have I:=ek.o g (xL d) (a6.o.not_cells d);have h2:=I.trans d;exact⟨(av.block g (xL h2) (tG h2 dB.o)).trans I,h9⟩
          .exact Zt (q3.mono zZ) fun g cc _ d=>cE.block g (xL d) (tG d Q.o)
          .exact fun g hg=>bf.o.out _ (nt bX) g hg
        have dv:=d2.o.left_eq;exact⟨⟨_,_,_,_,_,_,_,_,_,_,_,_,_,⟨_,_,d2,Lib.hid cE,ed,ep⟩,rfl⟩,by rw[cM,dv];exact eX.o⟩
       .have aF:∀(g:Nat) (c:Array Value) (t:TypeId),wc.heap[g]?=some (.cells c t)->wr.heap[g]?=some (.cells c t):=fun g c t d=>(bV.o.block g (xL d) (tG d Q.o)).trans d;have aR:=aF gt _ _ M.o.row;have cQ:=aF gf _ _ J.o;obtain⟨A2,bx⟩:=zA (encF x.fo);have aG:Hid (A2.size=192):=(by rw[bx.o];exact uh _);have dl:Hid (A2.all (·.oneCell')=true):=(by rw[bx.o];exact nw _);obtain⟨eR,aT,aM,bJ,bY,bR,bU,cp⟩:=sZ aR;obtain⟨R2,c9⟩:=zD (txR (gf,()) x.fo rv (.slice (some ⟨gn,0,none⟩) 32 cn) (.map (some gd)) (.map (some V)) gv x.full x.fake);have cZ:Hid (∀j,j<A2.size->R2[1+j]?=A2[j]?):=(by rw[<-c9.o,bx.o];exact gQ _ _ _ _ _ _ _ _ _);have bB:wr.heap[gt]?=some (.cells R2 150):=(by rw[<-c9.o];exact aR);have c4:=Lib.hid bB;have a3:gt≠gf:=tj aR cQ (by decide);have dr:Hid (wr.cell? (gt,193)=some rv/\wr.cell? (gt,194)=some (.slice (some ⟨gn,0,none⟩) 32 cn)):=⟨aT,aM⟩;have cG:∃q n c,rv=.slice q n c:=by
         obtain⟨_,⟨hv,a0,c0,e⟩|⟨g,o,c,e,_⟩⟩:=M.o.rows.now
         .exact⟨_,_,_,e⟩
         .exact⟨_,_,_,e⟩
        obtain⟨fk,dQ,dV,ex⟩:=cG;have aY:gt<wr.heap.size:=xL aR;have bT:=Lib.hid cQ;clear eR aT aM bJ bY bR bU cp aR bB;refine JQ (by kernel_rfl) (by kernel_rfl) (fun D _ u=>yK (fun i=>i=gf) wr u/\u.heap[gf]?=some (.cells (fsR (.pointer (some a)) (gl,()) (if D 17=true then x.fo else s1.fo) (if D 20=true then rv else aX) (if D 23=true then .slice (some ⟨gn,0,none⟩) 32 cn else aU) (.map (some L)) (.map (some bh))) 101))
         136 (fun i=>if i<17 then 115+i else if i=17\/i=20\/i=23 then 1000+i else if i<20 then 114+i else if i<23 then 113+i else 2000+i) (kpF gt gf A2 rv (.slice (some ⟨gn,0,none⟩) 32 cn)) (fun k v=>(k=0/\v=.pointer (some ⟨gt,0,none⟩))\/(k=8/\v=.pointer (some ⟨gf,0,none⟩))) (fun i j fz=>?_) (fun i k v hk=>?_) (by kernel_rfl) ⟨rfl,rfl,fun k v hk=>?_,(yK.refl _ _).drew,bT.o⟩ ?_ ?_
        .split<;>split<;>(try split)<;>(try split)<;>(try split)<;>(try split)<;>(try split)<;>(try split)<;>omega
        .have:k<115:=(by rcases hk with⟨rfl,_⟩|⟨rfl,_⟩<;>omega);split<;>(try split)<;>(try split)<;>(try split)<;>omega
        .rcases hk with⟨rfl,rfl⟩|⟨rfl,rfl⟩<;>rfl
        .intro D b u N i o m P B;have hpt:=N.old 0 _ (zt ⟨rfl,rfl⟩);have cd:=N.old 8 _ (zu ⟨rfl,rfl⟩);obtain⟨S,Z⟩:=N.j;have et:∀n,n≠17->n≠20->n≠23->upd D n 17=D 17/\upd D n 20=D 20/\upd D n 23=D 23:=fun n I h2 h3=>⟨qv (yF I),qv (yF h2),qv (yF h3)⟩;have hJ:∀n,n≠17->n≠20->n≠23->yK (fun i=>i=gf) wr u/\u.heap[gf]?=some (.cells (fsR (.pointer (some a)) (gl,()) (if upd D n 17=true then x.fo else s1.fo) (if upd D n 20=true then rv else aX) (if upd D n 23=true then .slice (some ⟨gn,0,none⟩) 32 cn else aU) (.map (some L)) (.map (some bh))) 101):=fun n I h2 h3=>by obtain⟨e1,e2,e3⟩:=et n I h2 h3;rw[e1,e2,e3];exact⟨S,Z⟩
         match i,m,P,B with
         | 0,m,P,B=>
          simp only[zj,zw]at m;subst m;exact qC (.tmp 8) rfl ⟨_,rfl,(fun d=>yb d (by decide)),cd,fun _ _ _=>hJ 0 (by omega) (by omega) (by omega)⟩
         | 1,m,P,B=>
          simp only[zj,zk,zw]at m;subst m;exact qC (.tmp 8) rfl ⟨_,rfl,(fun d=>yb d (by decide)),cd,fun _ _ _=>hJ 1 (by omega) (by omega) (by omega)⟩
         | 2,m,P,B=>
          simp only[zj,zk,zw]at m;subst m;exact qC (.tmp 8) rfl ⟨_,rfl,(fun d=>yb d (by decide)),cd,fun _ _ _=>hJ 2 (by omega) (by omega) (by omega)⟩
         | 3,m,P,B=>
          simp only[zj,zk,zw]at m;subst m;exact qC (.tmp 0) rfl ⟨_,rfl,(fun d=>yb d (by decide)),hpt,fun _ _ _=>hJ 3 (by omega) (by omega) (by omega)⟩
         | 4,m,P,B=>
          simp only[zj,zk,zw]at m;subst m;have e3:=N.fact 3 (B ⟨3,.data⟩ (by simp) rfl);exact mv (.tmp 118) rfl ⟨gt,0,none⟩ e3 ⟨_,rfl,(fun d=>yb d (by decide)),rfl,fun _ _ _=>hJ 4 (by omega) (by omega) (by omega)⟩
         | 5,m,P,B=>
          simp only[zj,zk,zw]at m;subst m;have e4:=N.fact 4 (B ⟨4,.data⟩ (by simp) rfl);exact sK (v:=.pointer (some ⟨gt,1,none⟩)) (w':=u) (by unfold execOp;simp only[Act.eval];rw[show b.tmps.getD 119 undef=_ from e4];simp[go_sem]) ⟨_,rfl,(fun d=>yb d (by decide)),rfl,fun _ _ _=>hJ 5 (by omega) (by omega) (by omega)⟩
         | 6,m,P,B=>
          simp only[zj,zk,zw]at m;subst m;have e5:=N.fact 5 (B ⟨5,.data⟩ (by simp) rfl);refine wp_load_mid 95 (.tmp 120) rfl gt 1 e5 A2.toList _ (O4 ((S.block gt aY a3).trans c4.o) cZ.o) forT rfl (by rw[yp,aG.o];exact forI) ?_;exact⟨_,rfl,(fun d=>yb d (by decide)),rfl,fun _ _ _=>hJ 6 (by omega) (by omega) (by omega)⟩
         | 7,m,P,B=>
          simp only[zj,zk,zw]at m;subst m;exact qC (.tmp 0) rfl ⟨_,rfl,(fun d=>yb d (by decide)),hpt,fun _ _ _=>hJ 7 (by omega) (by omega) (by omega)⟩
         | 8,m,P,B=>
          simp only[zj,zk,zw]at m;subst m;have e7:=N.fact 7 (B ⟨7,.data⟩ (by simp) rfl);exact mv (.tmp 122) rfl ⟨gt,0,none⟩ e7 ⟨_,rfl,(fun d=>yb d (by decide)),rfl,fun _ _ _=>hJ 8 (by omega) (by omega) (by omega)⟩
         | 9,m,P,B=>
          simp only[zj,zk,zw]at m;subst m;have e8:=N.fact 8 (B ⟨8,.data⟩ (by simp) rfl);exact sK (v:=.pointer (some ⟨gt,193,none⟩)) (w':=u) (by unfold execOp;simp only[Act.eval];rw[show b.tmps.getD 123 undef=_ from e8];simp[go_sem]) ⟨_,rfl,(fun d=>yb d (by decide)),rfl,fun _ _ _=>hJ 9 (by omega) (by omega) (by omega)⟩
         | 10,m,P,B=>
          simp only[zj,zk,zw]at m;subst m;have e9:=N.fact 9 (B ⟨9,.data⟩ (by simp) rfl);have d:u.cell? (gt,193)=some rv:=(S.cell aY a3).trans dr.o.1;exact sK (v:=rv) (w':=u) (by unfold execOp;simp only[Act.eval];rw[show b.tmps.getD 124 undef=_ from e9];simp[go_sem,d]) ⟨_,rfl,(fun d=>yb d (by decide)),rfl,fun _ _ _=>hJ 10 (by omega) (by omega) (by omega)⟩
         | 11,m,P,B=>
          simp only[zj,zk,zw]at m;subst m;exact qC (.tmp 0) rfl ⟨_,rfl,(fun d=>yb d (by decide)),hpt,fun _ _ _=>hJ 11 (by omega) (by omega) (by omega)⟩
         | 12,m,P,B=>
          simp only[zj,zk,zw]at m;subst m;have ff:=N.fact 11 (B ⟨11,.data⟩ (by simp) rfl);exact mv (.tmp 126) rfl ⟨gt,0,none⟩ ff ⟨_,rfl,(fun d=>yb d (by decide)),rfl,fun _ _ _=>hJ 12 (by omega) (by omega) (by omega)⟩
         | 13,m,P,B=>
          simp only[zj,zk,zw]at m;subst m;have eM:=N.fact 12 (B ⟨12,.data⟩ (by simp) rfl);exact sK (v:=.pointer (some ⟨gt,194,none⟩)) (w':=u) (by unfold execOp;simp only[Act.eval];rw[show b.tmps.getD 127 undef=_ from eM];simp[go_sem]) ⟨_,rfl,(fun d=>yb d (by decide)),rfl,fun _ _ _=>hJ 13 (by omega) (by omega) (by omega)⟩
         | 14,m,P,B=>
          simp only[zj,zk,zw]at m;subst m;have eU:=N.fact 13 (B ⟨13,.data⟩ (by simp) rfl);have d:u.cell? (gt,194)=some (.slice (some ⟨gn,0,none⟩) 32 cn):=(S.cell aY a3).trans dr.o.2;exact sK (v:=(.slice (some ⟨gn,0,none⟩) 32 cn)) (w':=u) (by unfold execOp;simp only[Act.eval];rw[show b.tmps.getD 128 undef=_ from eU];simp[go_sem,d]) ⟨_,rfl,(fun d=>yb d (by decide)),rfl,fun _ _ _=>hJ 14 (by omega) (by omega) (by omega)⟩
         | 15,m,P,B=>
          simp only[zj,zk,zw]at m;subst m;have e0:=N.fact 0 (B ⟨0,.data⟩ (by simp) rfl);exact mv (.tmp 115) rfl ⟨gf,0,none⟩ e0 ⟨_,rfl,(fun d=>yb d (by decide)),rfl,fun _ _ _=>hJ 15 (by omega) (by omega) (by omega)⟩
         | 16,m,P,B=>
          simp only[zj,zk,zw]at m;subst m;have ez:=N.fact 15 (B ⟨15,.data⟩ (by simp) rfl);exact sK (v:=.pointer (some ⟨gf,2,none⟩)) (w':=u) (by unfold execOp;simp only[Act.eval];rw[show b.tmps.getD 130 undef=_ from ez];simp[go_sem]) ⟨_,rfl,(fun d=>yb d (by decide)),rfl,fun _ _ _=>hJ 16 (by omega) (by omega) (by omega)⟩
         | 17,m,P,B=>
          simp only[zj,zk,zw]at m;subst m;have dS:=N.fact 16 (B ⟨16,.data⟩ (by simp) rfl);have e6:=N.fact 6 (B ⟨6,.data⟩ (by simp) rfl)
          skip
          refine Iy 95 (.tmp 131) (.tmp 121) rfl gf 2 A2 dS e6 _ _ (fsR (.pointer (some a)) (gl,()) x.fo (if D 20=true then rv else aX) (if D 23=true then .slice (some ⟨gn,0,none⟩) 32 cn else aU) (.map (some L)) (.map (some bh))) Z (by rw[aG.o];exact forI) (by rw[aG.o,jp];omega) dl.o (by rw[bx.o];exact NO _ _ _ _ _ _ _ _) ?_;refine⟨_,rfl,fun _=>rfl,rfl,fun _ _ _=>⟨S.step (yK.setRow (F:=fun i=>i=gf) rfl _),?_⟩⟩;rw[Ww,ze rfl,qv (by omega),qv (by omega)];exact yi _ _ _ _ _ _ Z
         | 18,m,P,B=>
          simp only[zj,zk,zw]at m;subst m;have e1:=N.fact 1 (B ⟨1,.data⟩ (by simp) rfl);exact mv (.tmp 116) rfl ⟨gf,0,none⟩ e1 ⟨_,rfl,(fun d=>yb d (by decide)),rfl,fun _ _ _=>hJ 18 (by omega) (by omega) (by omega)⟩
         | 19,m,P,B=>
          simp only[zj,zk,zw]at m;subst m;have ey:=N.fact 18 (B ⟨18,.data⟩ (by simp) rfl);exact sK (v:=.pointer (some ⟨gf,194,none⟩)) (w':=u) (by unfold execOp;simp only[Act.eval];rw[show b.tmps.getD 132 undef=_ from ey];simp[go_sem]) ⟨_,rfl,(fun d=>yb d (by decide)),rfl,fun _ _ _=>hJ 19 (by omega) (by omega) (by omega)⟩
         | 20,m,P,B=>
          simp only[zj,zk,zw]at m;subst m;have fd:=N.fact 19 (B ⟨19,.data⟩ (by simp) rfl);have dZ:=N.fact 10 (B ⟨10,.data⟩ (by simp) rfl);subst ex;refine Iz 96 (.tmp 133) (.tmp 125) rfl gf 194 fk dQ dV fd dZ (by kernel_rfl) _ _ Z (by rw[jp];omega) ?_;refine⟨_,rfl,fun _=>rfl,rfl,fun _ _ _=>⟨S.step (yK.setCell (F:=fun i=>i=gf) (p:=⟨gf,194,none⟩) rfl _),?_⟩⟩;rw[Ww,ze rfl,qv (by omega),qv (by omega),<-RC _ _ _ (if D 20=true then _ else aX) _ _ _ _];exact zX _ _ 194 _ _ _ Z
         | 21,m,P,B=>
          simp only[zj,zk,zw]at m;subst m;have e2:=N.fact 2 (B ⟨2,.data⟩ (by simp) rfl);exact mv (.tmp 117) rfl ⟨gf,0,none⟩ e2 ⟨_,rfl,(fun d=>yb d (by decide)),rfl,fun _ _ _=>hJ 21 (by omega) (by omega) (by omega)⟩
         | 22,m,P,B=>
          simp only[zj,zk,zw]at m;subst m;have el:=N.fact 21 (B ⟨21,.data⟩ (by simp) rfl);exact sK (v:=.pointer (some ⟨gf,195,none⟩)) (w':=u) (by unfold execOp;simp only[Act.eval];rw[show b.tmps.getD 134 undef=_ from el];simp[go_sem]) ⟨_,rfl,(fun d=>yb d (by decide)),rfl,fun _ _ _=>hJ 22 (by omega) (by omega) (by omega)⟩
         | 23,m,P,B=>
          simp only[zj,zk,zw]at m;subst m;have dT:=N.fact 22 (B ⟨22,.data⟩ (by simp) rfl);have dX:=N.fact 14 (B ⟨14,.data⟩ (by simp) rfl);refine Iz 97 (.tmp 135) (.tmp 129) rfl gf 195 (some ⟨gn,0,none⟩) 32 cn dT dX (by kernel_rfl) _ _ Z (by rw[jp];omega) ?_;refine⟨_,rfl,fun _=>rfl,rfl,fun _ _ _=>⟨S.step (yK.setCell (F:=fun i=>i=gf) (p:=⟨gf,195,none⟩) rfl _),?_⟩⟩;rw[Ww,ze rfl,qv (by omega),qv (by omega),<-P0 _ _ _ _ (if D 23=true then _ else aU) _ _ _];exact zX _ _ 195 _ _ _ Z
        .intro D b u N aC;obtain⟨S,Z⟩:=N.j;rw[ze (aC 17 (by simp)),ze (aC 20 (by simp)),ze (aC 23 (by simp))]at Z;rename_i K hK;refine hK _ _ (wp_seq (wp_region_lit (uX rfl fun K2 eN=>KR (.const (.int .i64 0)) rfl (eN _ _ ?_))));have e3:(b.put (some 2) (.int .i64 0)).tmps[2]?=some (.int .i64 0):=(by show (b.tmps.setIfInBounds 2 (.int .i64 0))[2]?=_;rw[yO,ze rfl,ze (by rw[N.size];omega)]);refine wp_ret ?_;have cs:yK (fun i=>i=L\/i=gf) wc u:=(bV.o.mono fun i _ z=>zt z).step (S.mono fun i _ z=>zu z);have aI:yK F' wc u:=cs.mono fun i _ z=>by
          rcases z with z|z
          .rw[z];exact f.o.2.2.2.2.2.1
          .rw[z];exact a4.o.1
         have fn:gf<wr.heap.size:=xL bT.o;have eC:L≠gf:=fun d=>tG J.o Q.o d.symm;have ei:gl≠gf:=tj aQ.o J.o (by decide);have dg:bh≠gf:=fun d=>tG J.o f.o.2.2.2.2.2.2.2.2.1 d.symm;have c8:∀i,T3 i->¬F' i:=fun i z=>(ak.o i z).1;have cW:∀g,g<wc.heap.size->g≠L->g≠gf->u.heap[g]?=wc.heap[g]? :=fun g I h2 h3=>cs.block g I (fun d=>d.elim h2 h3);have cR:FsAt u gf {s1 with fo:=x.fo,rows:=x.rows,nodes:=x.nodes,todo:=uN s1.todo (tq x s)} F' a:=by
          refine⟨⟨gl,rv,.slice (some ⟨gn,0,none⟩) 32 cn,L,bh,E,uN O dn,(fun i=>FD i/\i≠gf),Z,?_,fun i z=>f.o.2.1 i z.1,fun d=>f.o.2.2.1 d.1,?_,f.o.2.2.2.1,?_,?_,?_,?_,?_,f.o.2.2.2.2.2.1,f.o.2.2.2.2.2.2.1,fun d=>f.o.2.2.2.2.2.2.2.1 d.1,?_,f.o.2.2.2.2.2.2.2.2.2.1,fun d=>f.o.2.2.2.2.2.2.2.2.2.2 d.1⟩,a4.o.1,cw.o.1,fun i z=>zm (a4.o.2.1 i z) aI.size,a4.o.2.2.1,a4.o.2.2.2.1,a4.o.2.2.2.2,cw.o.2⟩
          .exact (f.o.1.without J.o (by decide) (by decide) (by decide)).keep cs fun i z d=>by
            rcases d with d|d
            .rw[d]at z;exact f.o.2.2.2.2.2.2.2.1 z.1
            .exact z.2 d
          .exact (cW gl U.o.2.2.2.2 (fun d=>tG aQ.o Q.o d) ei).trans aQ.o
          .exact (M.o.rows.grow fun i _ z=>zt z).keep aI
          .have hE:E.length=32:=(by rw[M.o.nds.1];exact cw.o.1);have I:=gE (G:=F') M.o.own (fun b hb=>by injection hb with hb;rw[<-hb];exact c8 _ M.o.tn);rw[hE];exact (I.keep aI).mono fun w' eD=>xT.of_owns eD
          .exact (M.o.nds.grow fun i _ z=>zt z).keep aI
          .exact bw.o.of_block (S.block L bw.o.lt eC)
          .have e:uN s1.todo (tq x s)=uN s1.todo (dn.map fun y=>(y.1,(getZ (tq x s) y.1).getD [])):=by
            have I:=O7 (put:=tq x s) ([]:List Int) M.o.secs.1 M.o.puts.2.1;have h2:(dn.map fun y=>(y.1,(getZ (tq x s) y.1).getD ([]:List Int))).Perm (tq x s):=by
             have:=hp.map fun y=>(y.1,(getZ (tq x s) y.1).getD ([]:List Int))
             rwa [I]at this
            refine (J7 h2 ?_).symm;rw[vB];exact a6.o.2.2.1
           rw[e];exact cP.o.keep fun g cc h9 d=>⟨S.block g (xL d) (fun eY=>by rw[eY,bT.o]at d;injection d with d;injection d with _ d;exact yb d (by decide)),h9⟩
          .exact f.o.2.2.2.2.2.2.2.2.1.of_block (cW bh f.o.2.2.2.2.2.2.2.2.1.lt (yF f.o.2.2.2.2.2.2.1) dg)
         refine yS (v:=.int .i64 0) ?_ N.dfs ⟨rfl,F',by rw[en.o];exact cR,c5.o,eh.o.trans aI fun i z=>c5.o i z⟩
         .simp[results,results86,go_sem,e3];intro d;have:=N.size;omega
