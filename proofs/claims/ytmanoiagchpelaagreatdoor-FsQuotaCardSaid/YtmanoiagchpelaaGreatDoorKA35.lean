import Derived.Test.YtmanoiagchpelaaGreatDoorKA34
set_option maxHeartbeats 0
set_option linter.all false
set_option maxRecDepth 100000
namespace Go.Proofs.YtmanoiagchpelaaGreatDoor
open Go.Proofs.Tryz Go.RowKit
variable {F:Nat->Prop} {a:Addr} {gf:Nat} {s:Fs} {w:World}
theorem V5 (n):(Builtin.zeroCells #[.int .u8 0] n).toList=List.replicate n (Value.int .u8 0):=by
 apply tI
 .simp[Builtin.zeroCells]
 .intro i a b;simp[Builtin.zeroCells,qK]
theorem LT {P:Program} (w) (t e) (h:P.underlying t=some (.slice e)) (d:∀w,(zeroValue e).run P w=.ok (.int .u8 0) w)
 (g o n c) (cur) (ct) (i:w.heap[g]?=some (.cells cur ct)) (f:o+n<=cur.size) (j:0<n) (ty):
 (Builtin.clear_ #[t] ty #[.slice (some ⟨g,o,none⟩) n c]).run P w=.ok (.tuple #[]) (w.setRow g (cur.toList.take o++List.replicate n (Value.int .u8 0)++cur.toList.drop (o+n)).toArray):=by
 have a:=vG P g o ct (Builtin.zeroCells #[.int .u8 0] n).toList 0 cur w i (by rw[V5,yN];omega) (by rw[V5];intro v d;rw[xV d];rfl);rw[V5]at a;simp only[vC,yN]at a;obtain⟨m,rfl⟩:∃m,n=m+1:=⟨n-1,by omega⟩;have b:Builtin.zeroCells #[.int .u8 0] (m+1)=(List.replicate (m+1) (Value.int .u8 0)).toArray:=by rw[<-V5]
 simp[Builtin.clear_,vE h,d,Value.cells,b,a]
theorem u8Zv: ∀w,(zeroValue 5).run prog w=.ok (.int .u8 0) w:=(te (P:=prog) (t:=5) (v:=.int .u8 0) (n:=1) (by kernel_rfl)).1
theorem IC (k m u g s l up) (v) (w):(Instr.field 123 (.agg #[.int .i64 k,.int .i64 m,.int .i64 u,.int .i64 g,.int .i64 s,.int .i64 l,.int .i64 up,v]) 4).run prog w=.ok (.int .i64 s) w:=by kernel_rfl
theorem uV.putGone {w':World} {B:Nat} {T:Nat->Prop} {gt:Nat} {fp:Value} {x:Tx} {rv:Value} {gn cn gd gp:Nat} {gv:Value} {E:List Nd} {pl:List (Int×Value)} (h:uV w B F T gt fp x rv gn cn gd gp gv E pl) (p:TxAt w B F gt fp x T) (gv') (l)
 (r:yQ (fun i=>i=gt) w w') (s:w'.heap[gt]?=some (.cells (txR fp x.fo rv (.slice (some ⟨gn,0,none⟩) 32 cn) (.map (some gd)) (.map (some gp)) gv' x.full x.fake) 118)) (q:w'.ownsRow w 3 1 gv' l.length (ints l)) (t:l.length<=1000):
 TxAt w' B F gt fp {x with gone:=l} (fun i=>T i\/gv'.ownBlock=some i):=by
 have f:yQ T w w':=r.mono fun i _ a=>by rw[a];exact p.self
 have c:∀b,b<w.heap.size->b≠gt->w'.heap[b]?=w.heap[b]? :=fun b j k=>r.block b j k;have m:∀i,(T i\/gv'.ownBlock=some i)->T i\/w.heap.size<=i:=fun i a=>a.imp id fun j=>(q.lt i j).1;have e:B<=w.heap.size:=by have j:=p.new gt p.self;have k:=xR h.row;omega
 refine uV.at (x:={x with gone:=l}) (rv:=rv) (gn:=gn) (cn:=cn) (gd:=gd) (gp:=gp) (gv:=gv') (E:=E) (pl:=pl) ⟨s,lJ h.rows f m,?_,qS h.nds f m,?_,?_,?_,h.ne,?_,zr h.tn,zr h.td,zr h.tp,fun b c=>zu c⟩ (zr p.self) p.len (fun i a=>?_) (fun i a=>?_) t p.put p.dirty p.rows p.fake
 .exact tw h.own fun b d=>c b (h.own.lt b d).2 (rH h.own h.row (by decide) b d)
 .exact h.dirt.of_block (c gd h.dirt.lt (yA (tQ h.row h.dirt)))
 .exact h.puts.of_block (c gp h.puts.lt (yA (tQ h.row h.puts)))
 .exact h.secs.keep fun g o _ n=>c g (xR n) (tC n h.row (by decide))
 .exact mx q e
 .rcases a with a|a
  .exact zo (p.fin i a) r.size
  .exact (q.lt i a).2
 .rcases a with a|a
  .exact p.new i a
  .exact zt e (q.lt i a).1
def cutY (s:Fs) (X:Pn) (sz:Int):Uw:=
 if (sy X.P (blkN sz) X.s sz).toNat=0 then ⟨(tx0 s).ow,[],resP X.P (blkN sz)⟩ else
 wrU s.k ⟨(tx0 s).ow,[],resP X.P (blkN sz)⟩ (blkN sz-1) ((rj (tx0 s) s (resP X.P (blkN sz)) (blkN sz-1)).take (sy X.P (blkN sz) X.s sz).toNat++List.replicate (64-(sy X.P (blkN sz) X.s sz).toNat) 0)
def cutT (s:Fs) (i:Nat) (X:Pn) (sz:Int):Tx:={((tx0 s).wow (cutY s X sz).ow) with put:=(cutY s X sz).put,nodes:=s.nodes.set i {X with P:=(cutY s X sz).P,s:=sz},dirty:=putZ [] (i+1) (.bool true),gone:=srtI (sc X.P (blkN sz))}
def cutM (s:Fs) (i sz:Nat):Int×Fs:=
 let X:=s.nodes.getD i zN
 if X.k=0 then (4,s) else if X.k≠1 then (12,s) else if X.s=sz then (0,s) else (endE s (cutT s i X sz),endS s (cutT s i X sz))
theorem Qh (h:FsAt w gf s F a) (i) (hi:i<32) (X) (hX:s.nodes[i]?=some X) (hk:X.k=1) (hP:ml X.P s.k) (ay:ZC X=0)
 (sz:Nat) (aU:sz<=512) (aG:X.s≠sz) (hr:rX s (cutT s i X sz)):
 Calls prog 57 #[(gf,()),.int .i64 (i+1),sz] w
  (fun e w'=>e=.returned (.int .i64 (endE s (cutT s i X sz)))/\uB w gf (endS s (cutT s i X sz)) F a w'):=by
 have H:=za h;have aR:=ZL h i hi X hX;rw[hk,zb (by omega),ze rfl]at aR;have cu:=za aR;have cm:=za (oA h);have bg:=za (fun (W:World) (x:Nat) (T:Nat->Prop) (hT:TxAt W w F x (gf,()) (tx0 s) T)=>mr hT i hi X hX);have cX:=za hP;obtain⟨XT,b7⟩:=zD (cutT s i X (sz:Int));rw[b7.o]at hr ⊢;have ar:Hid (∀(W) (x) (T),Below w w W->TxAt W w F x (gf,()) XT T ->
  Calls prog 64 #[(x,())] W
   (fun e w'=>e=.returned (.int .i64 (endE s XT))/\uB w gf (endS s XT) F a w')):=fun W x T hW hT=>ms H.o hW hT hr
 obtain⟨ee,cl⟩:=zD (endE s XT);obtain⟨es,ck⟩:=zD (endS s XT);rw[cl.o,ck.o]at ar ⊢;obtain⟨K,HK⟩:=zD (blkN (sz:Int));have bi:K<=8:=by rw[<-HK.o];exact jq (by omega)
 obtain⟨bn,bZ,ad,_⟩:=It ay (by omega:X.k≠0);have cq:Hid (X.P.length<=8):=by show _<=_;rw[ad];exact jq bn.2
 obtain⟨G,HG⟩:=zD (srtI (sc X.P K));have be:Hid (G.length=(sc X.P K).length):=by show _=_;rw[<-HG.o];exact (Wp _).length_eq
 have bC:Hid (G.length<=8):=by show _<=_;rw[be.o];exact zt (WR _ _) cq.o
 obtain⟨d,ah⟩:=zD (resP X.P K);have y:Hid (d.length=K):=by show _=_;rw[<-ah.o];exact XB _ _
 have aA:Hid (ml d s.k):=by
  intro r hr;rw[<-ah.o]at hr;unfold resP at hr;rcases yo.1 hr with hr|hr
  .exact hP r (yY hr)
  .have:=xV hr;have:=h.k0;omega
 obtain⟨f,ax⟩:∃f:Nat,Hid (sy X.P K X.s (sz:Int)=(f:Int)):=⟨(sy X.P K X.s (sz:Int)).toNat,by show _=_;have:=(Xp X.P K X.s (sz:Int)).1;omega⟩;have c6:f<64:=by have C:=(Xp X.P K X.s (sz:Int)).2.1;have:=ax.o;omega
 have cy:Hid (f≠0->0<K/\d.getD (K-1) 0≠0):=fun h0=>by
  have C:=ax.o;rw[<-ah.o];have N:(resP X.P K).getD (K-1) 0≠0:=by
   unfold sy at C;split at C
   .next N=>exact N.2.2
   .omega
  refine⟨?_,N⟩;rcases vn K with hK|hK
  .subst hK;exact zY (by unfold resP;simp) N
  .exact hK
 have bN:Hid (cutY s X sz=if f=0 then ⟨(tx0 s).ow,[],d⟩ else wrU s.k ⟨(tx0 s).ow,[],d⟩ (K-1) ((rj (tx0 s) s d (K-1)).take f++List.replicate (64-f) 0)):=by show _=_;unfold cutY;rw[HK.o,ah.o,ax.o,yz]
 have b4:Hid (∀(v) (W),vT W v X.P->Calls prog 110 #[.agg #[X.k,X.m,X.u,X.g,X.s,X.l,X.up,v],sz] W (fun e w'=>∃D I gv,e=.returned (.tuple #[.agg #[X.k,X.m,X.u,X.g,sz,X.l,X.up,.slice D K I],gv,f,()]) /\
  w'.ownsRow W 3 1 (D,K,I) K (ints d)/\w'.ownsRow W 3 1 gv G.length (ints G)/\Below W W w'/\∀b,(Value.slice D K I).ownBlock=some b->gv.ownBlock≠some b)):=fun v W hv=>by
  have C:=SB X.k X.m X.u X.g X.s X.l X.up v X.P (sz:Int) W hv ay (by omega) (by omega) (by omega);unfold iP at C;rw[HK.o,HG.o,ax.o,ah.o,<-be.o]at C;exact C
 have di:decide (512<(sz:Int))=false:=zz (by omega);have cJ:¬512<(sz:Int):=by omega
 have c7:¬512<sz:=by omega
 have cK:decide ((sz:Int)<0)=false:=zz (by omega);have cC:¬(sz:Int)<0:=by omega
 have b0:(X.s==sz)=false:=by simpa using aG
 clear h aR hX hk hP ay hr bn bZ ad;go_enter func57,ntmps57;go_wp2_with fail
 refine cu.o.mono ?_;rintro e w1 ⟨rfl,rfl⟩;go_wp2_with fail
 refine cm.o.mono ?_;rintro e w1 ⟨x,T,rfl,bL,hT⟩;have b5:=za bL;have cv:=za hT;have a5:=za (bg.o w1 x T hT);clear bL hT;go_wp2_with fail
 refine a5.o.mono ?_;rintro e w2 ⟨q0,n0,c0,rfl,_,aK⟩;have bp:=za (Below.trans b5.o (aK.mono b5.o.size));have bh:=za (cv.o.below aK);have a3:=za (bg.o w2 x T bh.o);clear aK a5;have cg:=IC;go_wp2_with fail
 refine a3.o.mono ?_;rintro e w3 ⟨q,n,c,rfl,z,aN⟩;have S:=za (Below.trans bp.o (aN.mono bp.o.size));have Z:=za (bh.o.below aN);have cd:=za (b4.o (q,n,c) w3 z.now);clear aN z a3;go_wp2_with fail
 refine cd.o.mono ?_;rintro e w4 ⟨D,I,gv,rfl,b2,aM,bK,a4⟩;have bf:=za b2;have bm:=za aM;have aP:=za bK;obtain⟨gq,gc,rfl,_⟩:=tV aM;have b3:=za a4;clear b2 aM bK a4;obtain⟨J,af⟩:=zD w4.heap.size;have aw:Hid (w3.heap.size<=J):=by show _;rw[<-af.o];exact aP.o.size
 have a8:Hid (TxAt w3 w (fun i=>F i\/i=J) x (gf,()) (tx0 s) T):=Z.o.outer fun i hi hg=>hg.resolve_right (by have:=aw.o;omega);obtain⟨rv,gn,cn,gd,gp,dm,E,pl,hl⟩:=a8.o.lies;have cz:=za hl;have aS:Hid (Below w3 w3 (w4.alloc (.cells #[X.k,X.m,X.u,X.g,sz,X.l,X.up,(D,K,I)] 123))):=aP.o.alloc aP.o.size _;have bB:Hid ((w4.alloc (.cells #[X.k,X.m,X.u,X.g,sz,X.l,X.up,(D,K,I)] 123)).heap[J]?=some (.cells #[X.k,X.m,X.u,X.g,sz,X.l,X.up,(D,K,I)] 123)):=by rw[<-af.o];exact zH
 have L:Hid ((w4.alloc (.cells #[X.k,X.m,X.u,X.g,sz,X.l,X.up,(D,K,I)] 123)).ownsRow w3 3 1 (D,K,I) K (ints d)/\(w4.alloc (.cells #[X.k,X.m,X.u,X.g,sz,X.l,X.up,(D,K,I)] 123)).ownsRow w3 3 1 (gq,G.length,gc) G.length (ints G)):=⟨tB bf.o (zB.alloc zL _),tB bm.o (zB.alloc zL _)⟩;have aJ:Hid (J≠x/\x<w3.heap.size/\¬T J/\(∀b,(Value.slice D K I).ownBlock=some b->b<J)/\∀b,(Value.slice gq G.length gc).ownBlock=some b->b<J):=by
  have C:=xR hl.row;have h2:=aw.o;refine⟨by omega,C,fun N=>?_,fun b A=>?_,fun b A=>?_⟩
  .have:=Z.o.fin J N;omega
  .rw[<-af.o];exact (bf.o.lt b A).2
  .rw[<-af.o];exact (bm.o.lt b A).2
 go_upto_region 14 with fail
 rw[af.o];generalize w4.alloc (.cells #[X.k,X.m,X.u,X.g,sz,X.l,X.up,(D,K,I)] 123)=w5 at *
 have t:=wy aS.o hl.row;have b6:=(rt t).2.2.2.2.2.1;have cE:w5.frozen? (x,197)=false:=zF t;have cs:=za t;have R:yQ (fun i=>i=x) w5 (w5.setCell (x,197) (gq,G.length,gc)):=yQ.setCell (F:=fun i=>i=x) (p:=⟨x,197,none⟩) rfl _;have bl:(w5.setCell (x,197) (gq,G.length,gc)).heap[x]?=some (.cells (txR (gf,()) (tx0 s).fo rv (.slice (some ⟨gn,0,none⟩) 32 cn) (.map (some gd)) (.map (some gp)) (gq,G.length,gc) (tx0 s).full (tx0 s).fake) 118):=by rw[<-gR];exact yb _ _ 197 _ _ _ t
 have bv:=tw L.o.2 fun b A=>R.block b (L.o.2.lt b A).2 (rH L.o.2 t (by decide) b A);have bO:=tw L.o.1 fun b A=>R.block b (L.o.1.lt b A).2 (rH L.o.1 t (by decide) b A);have Y:=za (cz.o.putGone a8.o (gq,G.length,gc) G ((yQ.of_below aS.o).step R) bl bv (by have:=bC.o;omega));have av:=za ((R.block J (xR bB.o) aJ.o.1).trans bB.o);have az:=za bO;have c4:Hid (yQ T w3 (w5.setCell (x,197) (gq,G.length,gc))):=(yQ.of_below aS.o).step (R.mono fun i _ hi=>by rw[hi];exact Z.o.self);have j:=za (S.o.trans (c4.o.to_below Z.o.new S.o.size));have bF:Hid (∀(W) (T') (q') (c') (Q),cutY s X sz=Q->TxAt W w (fun i=>F i\/i=J) x (gf,()) {(tx0 s).wow Q.ow with put:=Q.put,gone:=G} T'->ju (fun i=>F i\/T' i) {X with P:=Q.P,s:=sz} W q' K c' ->
  Calls prog 85 #[(x,()),.int .i64 (i+1),.agg #[X.k,X.m,X.u,X.g,sz,X.l,X.up,(q',K,c')]] W
   (fun e w'=>e=.returned (.tuple #[])/\uc w F x (gf,()) XT T' W w')):=fun W T' q' c' Q ci hW z=>by
  have bq:=lP (hW.outer fun r _ hr=>zr hr) i hi {X with P:=Q.P,s:=(sz:Int)} q' K c' z (by show (0:Nat)<900;omega);have e:XT={({(tx0 s).wow Q.ow with put:=Q.put,gone:=G}) with nodes:=({(tx0 s).wow Q.ow with put:=Q.put,gone:=G}).nodes.set i {X with P:=Q.P,s:=sz},dirty:=putZ ({(tx0 s).wow Q.ow with put:=Q.put,gone:=G}).dirty (i+1) (.bool true)}:=by rw[<-b7.o];unfold cutT;rw[ci,HK.o,HG.o];rfl
  rw[e];exact bq
 have cj:=b6;clear hl t R bl bv bO cg;by_cases ag:f=0
 .subst ag;have aL:Hid (cutY s X sz=⟨(tx0 s).ow,[],d⟩):=by show _=_;rw[bN.o];rfl
  have cw:decide (0<((0:Nat):Int))=false:=rfl
  go_upto_region 20 with fail
  generalize w5.setCell (x,197) (gq,G.length,gc)=w6 at *
  obtain⟨r0,r1,r2,r3,r4,r5,r6,r7⟩:=uT av.o;have z:ju (fun i=>F i\/(T i\/(Value.slice gq G.length gc).ownBlock=some i)) {X with P:=d,s:=sz} w6 D K I:=by
   have C:vT w6 (D,K,I) d:=(by have:=wh.of_owns az.o;unfold vT;rw[y.o];exact this);refine ZI C fun b A aj O=>?_;have h2:=(az.o.lt b A).1;rcases O with O|O|O
   .have:=H.o.fin b O;have:=S.o.size;omega
   .have:=Z.o.fin b O;omega
   .exact b3.o b A O
  have cf:=za (bF.o w6 _ D I _ aL.o Y.o z);clear z;go_wp2_with fail
  refine cf.o.mono ?_;rintro e w9 ⟨rfl,d9⟩;have aD:=za (d9.old j.o (Y.o.outer fun r _ hr=>zr hr));obtain⟨T9,t9,_⟩:=d9;have aF:=za (ar.o w9 x T9 aD.o t9);clear t9 r0 r1 r2 r3 r4 r5 r6 r7;go_wp2_with fail
  refine aF.o.mono ?_;rintro e U ⟨rfl,ai⟩;have aQ:=za ai;clear ai;go_wp2;go_ret;exact⟨rfl,aQ.o⟩
 .obtain⟨da,bH⟩:=cy.o ag;have cw:decide (0<(f:Int))=true:=ya (by omega);have cY:0<(f:Int):=by omega
  have cV:0<f:=by omega
  have iK:IntKind.i64.wrap (K-1)=((K-1:Nat)):=by rw[zQ _ (by omega)];omega
  obtain⟨B,a1⟩:=zD (K-1);rw[a1.o]at iK bH;have aZ:B<8:=by have:=a1.o;omega
  have an:B<d.length:=by rw[y.o];have:=a1.o;omega
  have aX:d.getD B 0=d[B]:=by rw[zi,zh an];rfl
  have ct:=aA.o _ (zx an);rw[aX]at bH;have ca:=H.o.k1;obtain⟨p',o',ao⟩:∃p' o',ownU (tx0 s).ow s.k d[B]=(p',o'):=⟨_,_,rfl⟩;have au:∀q∈d,PtR {tx0 s with gone:=G} s q:=fun q hq=>by have C:=aA.o q hq;exact⟨C.1,by omega,zr C.2⟩
  have ap:vT (w5.setCell (x,197) (gq,G.length,gc)) (D,K,I) d:=by have:=wh.of_owns az.o;unfold vT;rw[y.o];exact this
  have aj:=Kv Y.o (H.o.below j.o) {X with P:=d,s:=(sz:Int)} D K I ap B aZ au (by show d.length<=8;rw[y.o];exact bi);have am:=I9 Y.o (H.o.below j.o) d B au;have aT:rj {tx0 s with gone:=G} s d B=rj (tx0 s) s d B:=rfl;obtain⟨D0,aC⟩:=zD (rj (tx0 s) s d B);rw[show (({X with P:=d,s:=(sz:Int)}:Pn).P)=d from rfl,aT,aC.o]at aj;rw[aT,aC.o]at am;have ce:=za aj;have ak:=za am;have b1:=za ap;have aL:Hid (cutY s X sz=⟨o',putZ [] p' (D0.take f++List.replicate (64-f) 0),d.set B p'⟩):=by show _=_;rw[bN.o,zb ag,a1.o,aC.o];unfold wrU;rw[show ((⟨(tx0 s).ow,[],d⟩:Uw).P.getD B 0)=d[B] from aX,ao]
  have bz:=za ao;have bx:Hid (0<=d[B]/\d[B]<=1000000):=by show 0<=d[B]/\d[B]<=1000000;omega
  clear aj am aT ap ct ao au
  go_upto_region 16 with fail
  generalize w5.setCell (x,197) (gq,G.length,gc)=w6 at *
  obtain⟨r0,r1,r2,r3,r4,r5,r6,r7⟩:=uT av.o;go_wp2_with fail
  refine ce.o.mono ?_;rintro e w7 ⟨v7,rfl,g,aq,ae,bJ,a0,aH,a2,bI⟩;rw[ak.o]at bJ a2 a0;subst bJ;have ac:=za a0;have bE:64<=ae.size:=by have C:=zV List.length a2;rw[zj,uo,ak.o,yv]at C;omega
  have bM:=fun ty=>LT (P:=prog) w7 56 5 u8sT u8Zv g f (64-f) (aq-f) ae _ aH (by omega) (by omega) ty;obtain⟨V,bo⟩:=zD ((ae.toList.take f++List.replicate (64-f) (Value.int .u8 0)++ae.toList.drop (f+(64-f))).toArray);rw[bo.o]at bM;have M:Hid (Below w6 w6 (w7.setRow g V)):=xI bI a0.1 _;have bY:Hid ((w7.setRow g V).heap[g]?=some (.cells V 5)):=yh _ _ _ _ _ _ aH;have cb:Hid (V.toList.take 64=u8s (D0.take f++List.replicate (64-f) 0)):=by
   show _=_;rw[<-bo.o,xX];have e1:(ae.toList.take f++List.replicate (64-f) (Value.int .u8 0)).length=64:=(by rw[zm,zj,yN,yv];omega);rw[yT (by rw[e1];omega),zv (by rw[e1];omega),pC]
   congr 1
   .rw[oV,<-a2,vj]
    congr 1
    omega
   .simp[u8s]
  clear a0 aH a2 bI r0 r1 r2 r3 r4 r5 r6 r7;have cQ:=zW (64-f) (by omega);have dg:¬aq=f:=by have:=ac.o.2;omega
  have cD:f<=aq:=by have:=ac.o.2;omega
  go_upto_region 19 with fail
  generalize w7.setRow g V=w8 at *
  have a6:sJ w8 w (.slice (some ⟨g,0,none⟩) 64 aq) (D0.take f++List.replicate (64-f) 0):=⟨g,aq,V,rfl,by rw[zm,zj,yN,ak.o];omega,ac.o.2,zt j.o.size ac.o.1,bY.o,cb.o⟩;have aO:¬(T J\/(Value.slice gq G.length gc).ownBlock=some J):=fun N=>by
   rcases N with N|N
   .exact aJ.o.2.2.1 N
   .have:=aJ.o.2.2.2.2 J N;omega
  have bX:=za (Ku H.o (j.o.trans (M.o.mono j.o.size)) (Y.o.below M.o) J {X with P:=d,s:=(sz:Int)} D K I (wy M.o av.o) (wh.below b1.o M.o) ⟨zu rfl,aO,zt S.o.size aw.o⟩ B an (by rw[y.o];exact bi) (by show (256:Int)<1000000;omega) bx.o p' o' bz.o _ _ a6 (fun b A N=>by injection A with A;have bs:g=b:=A;have C:=Y.o.fin b N;have:=ac.o.1;omega) (by show (0:Nat)<900;omega));have cG:=za (xR av.o);clear a6 bM bE;go_wp2_with fail
  refine bX.o.mono ?_;rintro e U ⟨rfl,T2,g2,c2,ba,u1,u2,u3,u4,⟨u5,u6,u7⟩,cc,bj,u9⟩;have al:TxAt U w (fun i=>F i\/i=J) x (gf,()) {(tx0 s).wow o' with put:=putZ [] p' (D0.take f++List.replicate (64-f) 0),gone:=G} T2:=ba;have h9:vT U (g2,0,K,c2) (d.set B p'):=by
   refine⟨by simp[ints],zu ⟨g2,0,c2,by rw[xK,y.o],fun r u hr=>?_⟩⟩;rw[yO,zC bj,<-zO];have ch:r<d.length:=(by have:=(zJ.1 hr).1;simpa[ints]using this);have h3:(cc.toList.take d.length)[r]?=some u:=by have c1:=u9;rw[c1];exact hr
   rwa [zI,ze ch]at h3
  have z:ju (fun i=>F i\/T2 i) {X with P:=d.set B p',s:=sz} U (some ⟨g2,0,none⟩) K c2:=by
   refine ZI h9 fun b A aj O=>?_;injection A with A;have bs:g2=b:=A;subst bs;rcases O with O|O
   .have C:=H.o.fin _ O;have h2:=j.o.size;have h3:=M.o.size;omega
   .exact u6 O
  have aY:=za (bF.o U _ (some ⟨g2,0,none⟩) c2 _ aL.o al z);have bu:=za (al.outer (F':=F) fun r _ hr=>zr hr);have a9:U.heap[J]?=some (.cells #[X.k,X.m,X.u,X.g,sz,X.l,X.up,(g2,0,K,c2)] 123):=by have:=u4;rw[y.o]at this;exact this
  obtain⟨r0,r1,r2,r3,r4,r5,r6,r7⟩:=uT a9;have aE:=za ((j.o.trans (M.o.mono j.o.size)).trans (u3.to_below (fun i hi=>by
   rcases hi with (hi|hi)|hi
   .exact Z.o.new i hi
   .have C:=(az.o.lt) ;have h2:=(L.o.2.lt i hi).1;have:=S.o.size;omega
   .rw[hi];exact zt S.o.size aw.o) (zt j.o.size M.o.size)))
  clear ba al u1 u2 u3 u4 u5 u6 u7 bj u9 h9 z a9;go_wp2_with fail
  refine aY.o.mono ?_;rintro e cp ⟨rfl,d9⟩;have aD:=za (d9.old aE.o bu.o);obtain⟨T9,t9,_⟩:=d9;have aF:=za (ar.o cp x T9 aD.o t9);clear t9 r0 r1 r2 r3 r4 r5 r6 r7;go_wp2_with fail
  refine aF.o.mono ?_;rintro e dk ⟨rfl,ai⟩;have aQ:=za ai;clear ai;go_wp2;go_ret;exact⟨rfl,aQ.o⟩
theorem Lk (h:FsAt w gf s F a) (i:Nat) (I:i<32) (X) (G:s.nodes[i]?=some X) (J:X.k=1) (sz:Nat) (K:sz<=512) (H:X.s=sz):
 Calls prog 57 #[(gf,()),.int .i64 (i+1),sz] w
  (fun e w'=>e=.returned ()/\Below w w w'):=by
 have b:=ZL h i I X G;rw[J,zb (by omega),ze rfl]at b;have m:=za b;have l:=za (oA h);have q:=za (fun (W:World) (p:Nat) (T:Nat->Prop) (j:TxAt W w F p (gf,()) (tx0 s) T)=>mr j i I X G);have y:decide (512<(sz:Int))=false:=zz (by omega);have u:¬512<(sz:Int):=by omega
 have t:¬512<sz:=by omega
 have v:decide ((sz:Int)<0)=false:=zz (by omega);have x:¬(sz:Int)<0:=by omega
 have B:(X.s==sz)=true:=by simpa using H
 clear h b G J;go_enter func57,ntmps57;go_wp2_with fail
 refine m.o.mono ?_;rintro e r ⟨rfl,rfl⟩;go_wp2_with fail
 refine l.o.mono ?_;rintro e r ⟨p,T,rfl,g,j⟩;have d:=za g;have c:=za (q.o r p T j);clear g j;have z:=IC;go_wp2_with fail
 refine c.o.mono ?_;rintro e E ⟨A,C,D,rfl,_,f⟩;have n:=za (Below.trans d.o (f.mono d.o.size));clear f;go_wp2;go_ret;exact⟨rfl,n.o⟩
theorem fF (w) (n) (sz:Nat) (e) (g:e=4\/e=12) (f:Calls prog 80 #[(gf,()),.int .i64 n] w (fun y w'=>y=.returned (.int .i64 e)/\w=w')):
 Calls prog 57 #[(gf,()),.int .i64 n,sz] w (fun y w'=>y=.returned (.int .i64 e)/\w=w'):=by
 have a:=za f;have c:decide ((sz:Int)<0)=false:=zz (by omega);have d:¬((sz:Int)<0):=by omega
 clear f;rcases g with rfl|rfl;all_goals
  go_enter func57,ntmps57
  go_wp2_with fail
  refine a.o.mono ?_;rintro e b ⟨rfl,rfl⟩;go_wp2;go_ret;simp
structure iC (s:Fs) (i sz:Nat):Prop where
 pts:ml (s.nodes.getD i zN).P s.k
 right:ZC (s.nodes.getD i zN)=0
 run:(s.nodes.getD i zN).s≠(sz:Int)->rX s (cutT s i (s.nodes.getD i zN) (sz:Int))
theorem Sl (h:FsAt w gf s F a) (i) (t:i<32) (sz) (q:sz<=512) (r:(s.nodes.getD i zN).k=1->iC s i sz):
 Calls prog 57 #[(gf,()),.int .i64 (i+1),.int .i64 sz] w
  (fun e w'=>e=.returned (.int .i64 (cutM s i sz).1)/\uB w gf (cutM s i sz).2 F a w'):=by
 obtain⟨N,g⟩:=zD (s.nodes.getD i zN);have d:s.nodes[i]?=some N:=by rw[<-g.o];exact mv (by rw[h.len];exact t)
 have f:=ZL h i t N d;unfold cutM;rw[g.o]at r ⊢;by_cases m:N.k=0
 .rw[ze m]at f ⊢;exact (fF w _ sz 4 (zr rfl) f).mono fun e w' ⟨b,c⟩=>⟨b,c▸uB.same h zB⟩
 .rw[zb m]at f ⊢;by_cases b:N.k=1
  .rw[zb (fun p=>p b)];obtain⟨n,j,l⟩:=r b;rw[g.o]at n j l;by_cases c:N.s=(sz:Int)
   .rw[ze c];exact (Lk h i t N d b sz q c).mono fun e w' ⟨b,c⟩=>⟨b,uB.same h c⟩
   .rw[zb c];exact Qh h i t N d b n j sz q c (l c)
  .rw[zb b]at f;rw[ze b];exact (fF w _ sz 12 (zu rfl) f).mono fun e w' ⟨b,c⟩=>⟨b,c▸uB.same h zB⟩
theorem Sm (w) (sz:Nat):
 Calls prog 57 #[(gf,()),(),sz] w (fun y w'=>y=.returned (4:Int)/\w=w'):=fF w 0 sz 4 (zr rfl) (XX _ w)
theorem Ql (w) (i) (name) (d:rW name=true):
 Calls prog 51 #[(gf,()),.int .i64 i,.string name,()] w (fun y w'=>y=.returned (4:Int)/\w=w'):=by
 have a:=za (fun W=>Zd name W);rw[d]at a;have b:=za (Uu (gf,()) w);go_enter func51,ntmps51;go_wp2_with fail
 refine (a.o w).mono ?_;rintro e c ⟨rfl,rfl⟩;go_wp2_with fail
 refine b.o.mono ?_;rintro e c ⟨rfl,rfl⟩;go_wp2;go_ret;simp
theorem XZ (h:FsAt w gf s F a) (i) (X) (D) (R:DirS s i X D):
 Calls prog 25 #[(gf,()),.int .i64 (i+1)] w (fun e w'=>∃v,e=.returned (.tuple #[v,()])/\w'.ownsRow w 46 2 v (outD D).length (ents (outD D))/\Below w w w'):=by
 have m:=za (VX h i R.lt X R.nd);rw[R.k,zb (by omega),ze rfl]at m;have r:=za (oA h);have x:Hid (∀(g) (T) (W),Below w w W->TxAt W w F g (gf,()) ⟨s.fo,s.rows,s.nodes,[],[],[],false,256⟩ T ->
  Calls prog 68 #[(g,()),.int .i64 (i+1)] W (fun e w'=>∃v,e=.returned v/\sx w' v D/\Below W W w')):=fun g T W H I=>by
  have:=US I (h.below H) i R.lt X R.nd (iV R.pts h.k1) R.len R.sz;have M:secT ⟨s.fo,s.rows,s.nodes,[],[],[],false,256⟩ s=secE s:=by funext n;rfl
  rw[M,R.by_]at this;exact this.mono fun e w' ⟨v,J,B,L⟩=>⟨v,J,⟨wh.of_owns B,jA B⟩,L⟩
 have y:D.length<=1000:=by have:=Vh (secE s) X.P X.s;rw[R.by_]at this;have:=R.sz;have:=R.len;omega
 have A:Hid (∀(v) (W),sx W v D->Calls prog 67 #[v] W (Z8 D W)):=fun v W q=>Vz v D W q R.byte (by omega);have t:=za R.ok;clear h R y;go_enter func25,ntmps25;go_wp2_with fail
 refine m.o.mono ?_;rintro e w' ⟨rfl,rfl⟩;go_wp2_with fail
 refine r.o.mono ?_;rintro e E ⟨g,T,rfl,l,c⟩;have d:=za l;have z:=za c;clear l c;go_wp2_with fail
 refine (x.o g T E d.o z.o).mono ?_;rintro e O ⟨v,rfl,q,j⟩;have N:=za q;have f:=za (zf d.o j);clear q j;go_wp2_with fail
 refine (A.o v O N.o).mono ?_;intro e Q b;rcases b with⟨_,b⟩|⟨b,_⟩
 .obtain⟨G,rfl,C,p⟩:=b;have K:=za (Jg C f.o.size);have u:=za (zf f.o p);clear C p;go_wp2;go_ret2;exact⟨G,rfl,K.o,u.o⟩
 .rw[t.o]at b;cases b
def dirB (s:Fs) (i:Nat):List Int:=tO (secE s) (s.nodes.getD i zN).P (s.nodes.getD i zN).s
def lA (s:Fs) (n:Int):Bool:=decide ((s.nodes.getD (n-1).toNat zN).k=2)
def sZ (s:Fs):List Int->List En->List Int
 | out,[]=>out
 | out,x::l=>sZ s (if lA s x.2&&!(out.contains x.2) then out++[x.2] else out) l
def mj (s:Fs):Nat->Nat->List Int->List Int
 | 0,_,out=>out
 | f+1,i,out=>if i<out.length/\out.length<=32 then mj s f (i+1) (sZ s out (outD (dirB s (out.getD i 0-1).toNat))) else out
def rC (s:Fs):List Int:=mj s 33 0 [1]
def eI (s:Fs):Prop:=(∀i,i<32->(s.nodes.getD i zN).k=2->DirS s i (s.nodes.getD i zN) (dirB s i))/\(s.nodes.getD 0 zN).k=2
def DlOk (s:Fs) (out:List Int):Prop:=∀n∈out,1<=n/\n<=32/\(s.nodes.getD (n-1).toNat zN).k=2
theorem Vm {i:Nat} (h:DirS s i (s.nodes.getD i zN) (dirB s i)):(outD (dirB s i)).length<=32/\∀x∈outD (dirB s i),1<=x.2/\x.2<=32:=by obtain⟨a,b,_⟩:=(rO _).1 (mP h.ok).2.1;exact⟨a,fun x c=>(jF (b x c)).2⟩
theorem JK (s):∀(l) (out) (x),sZ s out (l++[x])=(if lA s x.2&&!((sZ s out l).contains x.2) then sZ s out l++[x.2] else sZ s out l)
 | [],out,x=>rfl
 | y::l,out,x=>JK s l _ x
theorem Vu {s:Fs}:∀{l} {out},DlOk s out->(∀x∈l,1<=x.2/\x.2<=32)->DlOk s (sZ s out l)/\out.length<=(sZ s out l).length/\(sZ s out l).length<=out.length+l.length
 | [],out,h,_=>⟨h,zL,zL⟩
 | x::l,out,h,e=>by
  unfold sZ;split
  .next j=>
   have g:(s.nodes.getD (x.2-1).toNat zN).k=2:=(by have:=(Bool.and_eq_true_iff.1 j).1;exact sM this);have i:DlOk s (out++[x.2]):=fun n d=>by
    rcases yo.1 d with d|d
    .exact h n d
    .rw[xt]at d;subst d;have:=e x (xn ..);exact⟨this.1,this.2,g⟩
   obtain⟨a,b,c⟩:=Vu i (fun y f=>e y (yZ _ f));rw[zm]at b c;simp at b c ⊢;exact⟨a,by omega,by omega⟩
  .obtain⟨a,b,c⟩:=Vu h (fun y f=>e y (yZ _ f));exact⟨a,b,by simp;omega⟩
theorem Wa (h:FsAt w gf s F a) (hd:eI s):
 Calls prog 24 #[(gf,())] w (fun e w'=>∃v,e=.returned v/\w'.ownsRow w 3 1 v (rC s).length (ints (rC s))/\Below w w w'):=by
 have H:=za h;have HD:=za hd;obtain⟨R,HR⟩:=zD (rC s);rw[HR.o];have aK:=za h.len;have bi:Hid (Below w w (w.alloc (.cells #[(1:Int)] 3))):=zB.alloc zL _;have bp:Hid ((w.alloc (.cells #[(1:Int)] 3)).ownsRow w 3 1 (.slice (some ⟨w.heap.size,0,none⟩) 1 1) 1 (ints [1])):=⟨rfl,zu ⟨_,1,_,rfl,zL,zH,zL,by decide,rfl,rfl⟩⟩;obtain⟨i0,aN,aD,aQ,aM⟩:=xy jP;have bz:=za aN;have bb:=za aD;have aX:=za aQ;have bh:=za aM;have bd:Hid (DlOk s [1]):=fun n hn=>by rw[xt]at hn;subst hn;exact⟨by omega,by omega,hd.2⟩
 clear h hd aN aD aQ aM;go_enter func24,ntmps24;go_wp2;generalize bZ:w.alloc (.cells #[(1:Int)] 3)=wa at *
 go_loopw [3,4] (fun o i wr=>∃(k f:Nat) (j:List Int),k<=32/\f+k=33/\i=.int .i64 k/\j.length<=64/\Hid (DlOk s j/\mj s f k j=R)/\Hid (wr.ownsRow w 3 1 o j.length (ints j))/\Hid (Below w w wr)) (fun _ i _=>33-(intOf i).toNat)
 case atStart=>exact⟨0,33,[1],by omega,by omega,rfl,by simp,⟨bd.o,HR.o⟩,bp.o,bi.o⟩
 case round=>
  obtain⟨k,f,j,hk,bU,rfl,bc,a1,HO,HB⟩:=hrel;obtain⟨q,c,hv,_⟩:=tV HO.o;subst hv;obtain⟨L,HL⟩:=zD j.length;rw[HL.o]at HO bc ⊢;obtain⟨f,rfl⟩:∃f',f=f'+1:=⟨f-1,by omega⟩;have d:=a1.o.2;unfold mj at d;rw[HL.o]at d;by_cases ae:k<L;case neg=>
   rw[zb (fun hc=>ae hc.1)]at d;have d1:decide (k<(L:Int))=false:=zz (by omega);have d2:¬k<(L:Int):=(by omega);have ac:Hid (R.length=L/\ints R=ints j):=(by rw[<-d];exact⟨HL.o,rfl⟩);clear d ae;go_wp2;go_ret;exact⟨_,rfl,by rw[ac.o.1,ac.o.2];exact HO.o,HB.o⟩
  have d1:decide (k<(L:Int))=true:=ya (by omega);have d2:k<(L:Int):=by omega
  by_cases aH:L<=32;case neg=>
   rw[zb (fun hc=>aH hc.2)]at d;have d3:decide ((L:Int)<=32)=false:=zz (by omega);have d4:¬(L:Int)<=32:=(by omega);have ac:Hid (R.length=L/\ints R=ints j):=(by rw[<-d];exact⟨HL.o,rfl⟩);clear d ae;go_wp2;go_ret;exact⟨_,rfl,by rw[ac.o.1,ac.o.2];exact HO.o,HB.o⟩
  have d3:decide ((L:Int)<=32)=true:=ya (by omega);have d4:(L:Int)<=32:=by omega
  rw[ze ⟨ae,aH⟩]at d;have az:k<j.length:=by rw[HL.o];exact ae
  have a6:j.getD k 0=j[k]:=by rw[zi,zh az];rfl
  obtain⟨n1,n2,n3⟩:=a1.o.1 _ (zx az);obtain⟨n,hn⟩:∃n:Nat,j[k]=(n:Int)+1:=⟨(j[k]-1).toNat,by omega⟩;rw[a6,hn]at d;rw[hn]at n1 n2 n3;have e:((n:Int)+1-1).toNat=n:=by omega
  rw[e]at d n3;have a8:n<32:=by omega
  have ax:=HD.o.1 n a8 n3;have ab:=za (Vm ax);have aJ:=za (XZ (H.o.below HB.o) n _ _ ax);obtain⟨J,aG⟩:=zD (outD (dirB s n));rw[aG.o]at d ab aJ;obtain⟨g,cc,hq,aS,aB⟩:=HO.o.form (by omega);injection hq with e1 e2 e3;subst e1 e3;clear e2;have ar:wr.cell? (g,k)=some (.int .i64 (n+1)):=by
   have:=HO.o.cells (g:=g) rfl k (.int .i64 ((n:Int)+1)) (by unfold ints;rw[xF,zh az,hn];rfl);have G:(⟨g,0,none⟩:Addr).add k=⟨g,k,none⟩:=by unfold Addr.add;split<;>simp_all
   rwa [G]at this
  have b3:=za d;have bJ:Hid (g<wr.heap.size/\w.heap.size<=g):=⟨aB,aS⟩;clear d a6 n1 n2 n3 hn e ax aS aB;go_wp2_with fail
  refine aJ.o.mono ?_;rintro e w2 ⟨v2,rfl,aw,av⟩;obtain⟨q2,c2,bl,_⟩:=tV aw;subst bl;have aF:=za aw;obtain⟨M,ag⟩:=zD J.length;rw[ag.o]at aF ab ⊢;have bg:=za (HB.o.trans (av.mono HB.o.size));have bs:=za (tB HO.o av);clear aw av ar;go_wp2;go_loopw [3,36] (fun o i wq=>∃(t:Nat),t<=M/\i=.int .i64 t/\Hid (wq.ownsRow w 3 1 o (sZ s j (J.take t)).length (ints (sZ s j (J.take t))))/\Hid (wq.ownsRow wr 46 2 (q2,M,c2) M (ents J))/\Hid (Below w w wq)) (fun _ i _=>M-(intOf i).toNat);case atStart=>exact⟨0,ye _,rfl,by show World.ownsRow _ _ _ _ _ _ _;rw[xH];show World.ownsRow _ _ _ _ _ j.length (ints j);rw[HL.o];exact bs.o,aF.o,bg.o⟩
  case round=>
   obtain⟨t,ht,rfl,Q,ak,ai⟩:=hrel;obtain⟨sd,Y,aa⟩:=Vu (l:=J.take t) a1.o.1 (fun x hx=>ab.o.2 x (yY hx));obtain⟨P,U⟩:=zD (sZ s j (J.take t));rw[U.o]at Q sd Y aa;rw[zj,ag.o,HL.o]at aa;rw[HL.o]at Y;have b6:=ab.o.1;have am:P.length<=64:=(by omega);obtain⟨qo,co,bn,_⟩:=tV Q.o;subst bn;obtain⟨LO,D⟩:=zD P.length;rw[D.o]at Q am Y aa ⊢;have bu:=za sd;by_cases be:t<M
   .have a0:t<J.length:=(by rw[ag.o];exact be);have S:=JK s (J.take t) j J[t];rw[zR a0,U.o]at S;obtain⟨nm,O,hx⟩:∃nm O,J[t]=(nm,O):=⟨_,_,rfl⟩;rw[hx]at S;have af:=ab.o.2 _ (zx a0);rw[hx]at af;obtain⟨x,bf⟩:∃x:Nat,O=(x:Int)+1:=⟨(O-1).toNat,by have:=af.1;show O=((O-1).toNat:Int)+1;have h3:1<=O:=this;omega⟩;subst bf;have ap:x<32:=(by have h3:(x:Int)+1<=32:=af.2;omega);have ex:((x:Int)+1-1).toNat=x:=(by omega);obtain⟨N,HN⟩:=zD (s.nodes.getD x zN);have aI:s.nodes[x]?=some N:=(by rw[<-HN.o];exact mv (by rw[aK.o];exact ap));have aA:lA s (x+1)=decide (N.k=2):=(by unfold lA;rw[ex,HN.o]);rw[show ((nm,(x:Int)+1):En).2=(x:Int)+1 from rfl,aA]at S;obtain⟨ge,bF,ba,b5,b7⟩:=ak.o.form (by omega);injection ba with e1 e2 e3;subst e1 e3;clear e2;have ah:=Zi J t a0;rw[hx]at ah;have G:∀r,(⟨ge,0,none⟩:Addr).add r=⟨ge,r,none⟩:=fun r=>(by unfold Addr.add;split<;>simp_all);have c0:wr.cell? (ge,t*2)=some (.string nm):=(by rw[<-G];exact ak.o.cells (g:=ge) rfl _ _ ah.1);have c1:wr.cell? (ge,t*2+1)=some (.int .i64 (x+1)):=(by rw[<-G];exact ak.o.cells (g:=ge) rfl _ _ ah.2);have Z:Hid (Below wr wr (wr.alloc (.cells #[.string nm,.int .i64 (x+1)] 46))):=zB.alloc zL _;have I:=za (hH (H.o.below (zf ai.o Z.o)) x ap N aI);have C:=za S;clear ah G S af aA aI hx sd;have E:=za (fun (W:World) (hW:Below wr wr W)=>(show _/\_/\_ from ⟨tB Q.o hW,tB ak.o hW,zf ai.o hW⟩));by_cases T:N.k=0
    .have hs:pG N=.tuple #[.agg #[(),(),(),(),(),()],(4:Int)]:=(by unfold pG;rw[ze T]);rw[hs]at I;have B:decide (N.k=2)=false:=zz (by omega);rw[B]at C;clear hs B T;go_wp2_with fail
     refine I.o.mono ?_;rintro e w5 ⟨rfl,y⟩;have z:=za (E.o _ (zf Z.o (y.alloc y.size (.cells #[(),(),(),(),(),()] 52))));have A:Hid (sZ s j (J.take (t+1))=P):=(by show _=_;rw[C.o];exact rfl);clear y;go_wp2;go_roundw;case rel=>exact⟨t+1,by omega,by go_num,by show World.ownsRow _ _ _ _ _ _ _;rw[A.o,D.o];exact z.o.1,z.o.2.1,z.o.2.2⟩
     case measure=>simp[intOf];omega
    have hs:pG N=.tuple #[.agg #[N.k,N.m,N.u,N.g,N.s,N.l],()]:=(by unfold pG;rw[zb T]);rw[hs]at I;by_cases B:N.k=2;case neg=>
     have b2:(N.k==2)=false:=(by simpa using B);have X:=zz B;rw[X]at C;clear hs B T X;go_wp2_with fail
     refine I.o.mono ?_;rintro e w5 ⟨rfl,y⟩;have z:=za (E.o _ (zf Z.o (y.alloc y.size (.cells #[N.k,N.m,N.u,N.g,N.s,N.l] 52))));have A:Hid (sZ s j (J.take (t+1))=P):=(by show _=_;rw[C.o];exact rfl);clear y;go_wp2;go_roundw;case rel=>exact⟨t+1,by omega,by go_num,by show World.ownsRow _ _ _ _ _ _ _;rw[A.o,D.o];exact z.o.1,z.o.2.1,z.o.2.2⟩
     case measure=>simp[intOf];omega
    have b2:(N.k==2)=true:=(by simp[B]);have X:=ya B;rw[X]at C;clear hs B T X;go_wp2_with fail
    refine I.o.mono ?_;rintro e w5 ⟨rfl,y⟩;have z:=za (E.o _ (zf Z.o (y.alloc y.size (.cells #[N.k,N.m,N.u,N.g,N.s,N.l] 52))));have al:=za (Gn (qo,LO,co) P ((x:Int)+1) _ (by have h1:=wh.of_owns z.o.1;unfold vT;rw[D.o];exact h1) (by rw[D.o];omega));have bY:w5.cell? (wr.heap.size,1)=some (.int .i64 (x+1)):=(y.cell (p:=⟨wr.heap.size,1,none⟩) (by simp)).trans (by rw[zC (zT wr _)];rfl);have aE:wr.heap.size<w5.heap.size:=(by have:=y.size;simp at this;omega);have bS:¬wr.heap.size=w5.heap.size:=(by omega);have bT:¬w5.heap.size=wr.heap.size:=(by omega);have bo:Hid (Below wr wr ((w5.alloc (.cells #[N.k,N.m,N.u,N.g,N.s,N.l] 52)).alloc (.cells #[.int .i64 (x+1)] 3))):=(zf Z.o (y.alloc y.size (.cells #[N.k,N.m,N.u,N.g,N.s,N.l] 52))).alloc (by have:=aE;simp;omega) _;clear y;cases aj:P.contains ((x:Int)+1) with
    | true=>
     rw[aj]at al C;clear aj;have A:Hid (sZ s j (J.take (t+1))=P):=(by show _=_;rw[C.o];rfl);go_wp2_with fail
     refine al.o.mono ?_;rintro e w6 ⟨rfl,rfl⟩;go_wp2;go_roundw;case rel=>exact⟨t+1,by omega,by go_num,by show World.ownsRow _ _ _ _ _ _ _;rw[A.o,D.o];exact z.o.1,z.o.2.1,z.o.2.2⟩
     case measure=>simp[intOf];omega
    | false=>
     rw[aj]at al C;clear aj;have A:Hid (sZ s j (J.take (t+1))=P++[(x:Int)+1]):=(by show _=_;rw[C.o];rfl);go_wp2_with fail
     refine al.o.mono ?_;rintro e w6 ⟨rfl,rfl⟩;have br:=za (zt ai.o.size (nU aE));have aL:(ints P)++[Value.int .i64 (x+1)]=ints (P++[(x:Int)+1]):=(by simp[ints]);have bq:=za aL;have bt:Hid (((w5.alloc (.cells #[N.k,N.m,N.u,N.g,N.s,N.l] 52)).alloc (.cells #[.int .i64 (x+1)] 3)).heap[w5.heap.size+1]?=some (.cells #[.int .i64 (x+1)] 3)):=vm _ _ _;have b0:=za (tB z.o.1 (zB.alloc zL (.cells #[.int .i64 ((x:Int)+1)] 3)));have K:=za (E.o ((w5.alloc (.cells #[N.k,N.m,N.u,N.g,N.s,N.l] 52)).alloc (.cells #[.int .i64 ((x:Int)+1)] 3)) bo.o);clear aL;go_wp2_with (at_builtin;refine yI _ rfl _ _ 33 rfl w.heap.size 3 i0 (.int .i64 0) 1 8 lB bz.o bb.o aX.o bh.o rfl (by decide) _ _ _ rfl b0.o ⟨w5.heap.size+1,0,none⟩ 1 1 [.int .i64 ((x:Int)+1)] rfl rfl (xE (cs:=#[.int .i64 ((x:Int)+1)]) (t:=3) (fr:=(0,0)) bt.o) (by simp[Value.oneCell']) (by unfold maxLen;omega) (by omega) (by have:=br.o;simp;omega) ?_;intro v8 w8 ao V a9)
     have aV:Hid (w8.ownsRow w 3 1 v8 (LO+1) (ints (P++[(x:Int)+1]))):=(by show World.ownsRow _ _ _ _ _ _ _;rw[<-bq.o];exact ao);have ay:yQ (fun r=>(Value.slice qo LO co).ownBlock=some r) _ w8:=yQ.grown V fun r hr=>hr;have aW:=za (tw K.o.2.1 fun b hb=>ay.block b (K.o.2.1.lt b hb).2 (fun hc=>by obtain⟨bH,aR⟩:=mO K.o.1 b hc;exact rH K.o.2.1 aR (by decide) b hb rfl));have bj:=za (K.o.2.2.trans (ay.to_below (fun r hr=>(K.o.1.lt r hr).1) K.o.2.2.size));clear ao V a9 ay;go_wp2;go_roundw;case rel=>exact⟨t+1,by omega,by go_num,by show World.ownsRow _ _ _ _ _ _ _;rw[A.o,zm,D.o];exact aV.o,aW.o,bj.o⟩
     case measure=>simp[intOf];omega
   .obtain rfl:t=M:=(by omega);have aZ:Hid (sZ s j J=P):=(by show _=_;rw[<-U.o,zv (vM ag.o)]);have aq:=b3.o;rw[aZ.o]at aq;have aO:=za aq;clear aq sd;go_wp2;go_roundw;case rel=>exact⟨k+1,f,P,by omega,by omega,by go_num,by rw[D.o];exact am,⟨bu.o,aO.o⟩,by show World.ownsRow _ _ _ _ _ _ _;rw[D.o];exact Q.o,ai.o⟩
    case measure=>simp[intOf];omega
theorem u8sTu: prog.underlying 56=some (.slice 5):=by kernel_rfl
theorem byteTu: prog.underlying 5=some (.int .u8):=by kernel_rfl
theorem Re: prog.underlying 9=some .string:=by kernel_rfl
theorem O9 (l) (h:0<l.length) {v:Value} (e:vQ w v l):(convert 56 9 v).run prog w=.ok (.string (sE l)) w:=by
 obtain⟨b,⟨d,_⟩|⟨g,o,c,rfl,a⟩⟩:=e
 .omega
 .exact Yh w _ _ _ g o c l.length l rfl u8sTu byteTu Re a
def nmK (i:Nat):ByteArray:=⟨#[UInt8.ofNat (97+i)]⟩
def nmOf (x:Int):ByteArray:=nmK (pk x 8).toNat
theorem nmK_8: ((List.range 8).all fun i=>(sE [97+i]).data==(nmK i).data)=true:=by kernel_rfl
theorem nmK_ok: ((List.range 8).all fun i=>rW (nmK i))=true:=by kernel_rfl
theorem YX (x):∃i:Nat,i<8/\pk x 8=i/\nmOf x=nmK i:=by have h:=ru x 8 (by omega) (by omega);exact⟨(pk x 8).toNat,by omega,by omega,rfl⟩
theorem lU (x):rW (nmOf x)=true:=by obtain⟨i,a,_,h⟩:=YX x;rw[h];exact yW.1 nmK_ok i (yH.2 a)
theorem TU (x) (w):Calls prog 37 #[.int .i64 x] w (fun e w'=>e=.returned (.string (nmOf x))/\Below w w w'):=by
 obtain⟨i,k,a,f⟩:=YX x;rw[f];have b:=pB x 8 w (by omega) (by omega);rw[a]at b;have l:=za b;have n:=zW (97+i) (by omega);have p:IntKind.u8.wrap (97+i)=97+i:=by simp[IntKind.wrap,IntKind.bits,IntKind.signed];omega
 have c:vQ (w.alloc (.cells #[.int .u8 (97+i)] 5)) (.slice (some ⟨w.heap.size,0,none⟩) 1 1) [97+i]:=pD rfl (zH) rfl;have g:=O9 [97+(i:Int)] (by show 0<1;omega) c;have d:sE [97+i]=nmK i:=by
  have j:(sE [97+i]).data=(nmK i).data:=by simpa using yW.1 nmK_8 i (yH.2 k)
  exact ByteArray.ext j
 rw[d]at g;have h:Hid (Below w w (w.alloc (.cells #[.int .u8 (97+i)] 5))):=zB.alloc zL _;clear b c d a f;go_enter func37,ntmps37;go_wp2_with fail
 refine l.o.mono ?_;rintro e m ⟨rfl,rfl⟩;go_wp2;go_ret;exact⟨rfl,h.o⟩
theorem M8 (w) (gb g6 g7) (k m u0 g0 s l up u g) (v) (E:w.heap[gb]?=some (.cells #[.int .i64 k,.int .i64 m,.int .i64 u0,.int .i64 g0,.int .i64 s,.int .i64 l,.int .i64 up,v] 123))
 (H:w.cell? ⟨g6,0,none⟩=some (.int .i64 u)) (I:w.cell? ⟨g7,0,none⟩=some (.int .i64 g)) (G:g6≠gb/\g7≠gb):
 Calls prog 112 #[.pointer (some ⟨gb,0,none⟩),.pointer (some ⟨g6,0,none⟩),.pointer (some ⟨g7,0,none⟩)] w
  (fun e w'=>e=.returned (.tuple #[])/\yQ (fun i=>i=gb) w w'/\w'.heap[gb]?=some (.cells #[.int .i64 k,.int .i64 m,.int .i64 u,.int .i64 g,.int .i64 s,.int .i64 l,.int .i64 up,v] 123)):=by
 have c:=za E;obtain⟨z,q,D,n,t,A,r,y⟩:=uT E;have x:w.frozen? (gb,2)=false:=zF E;have C:w.frozen? (gb,3)=false:=zF E;obtain⟨d,f⟩:=G;have j:¬gb=g6:=fun h=>d h.symm;have B:¬gb=g7:=fun h=>f h.symm;clear E;go_enter func112,ntmps112
 go_region
 all_goals
  go_wp2;refine⟨rfl,.tuple #[],(by simp[results,results112,go_sem]),?_⟩;have b:yQ (fun i=>i=gb) w ((w.setCell (gb,2) (.int .i64 u)).setCell (gb,3) (.int .i64 g)):=(yQ.setCell (F:=fun i=>i=gb) (p:=⟨gb,2,none⟩) rfl _).step (yQ.setCell (F:=fun i=>i=gb) (p:=⟨gb,3,none⟩) rfl _);have a:=lG (x9 ((w.setCell (gb,2) (.int .i64 u)).setCell (gb,3) (.int .i64 g)).heap.size ((w.setCell (gb,2) (.int .i64 u)).setCell (gb,3) (.int .i64 g))) 1;exact⟨rfl,b.step (yQ.of_below a),wy a (yb _ _ 3 _ _ _ (yb _ _ 2 _ _ _ c.o))⟩
def chgP (N:Pn) (u g:Int):Pn:={N with u:=u,g:=g}
def ownM (s:Fs) (i:Nat) (u g:Int):Int×Fs:=
 let N:=s.nodes.getD i zN
 if N.k=0 then (4,s) else (endE s ((tx0 s).setX i (chgP N u g)),endS s ((tx0 s).setX i (chgP N u g)))
theorem Mn (h:FsAt w gf s F a) (i) (hi:i<32) (g6 g7) (u g) (h6:w.cell? ⟨g6,0,none⟩=some (.int .i64 u)) (h7:w.cell? ⟨g7,0,none⟩=some (.int .i64 g)) (al:g6<w.heap.size/\g7<w.heap.size)
 (aa:(s.nodes.getD i zN).k≠0->rX s ((tx0 s).setX i (chgP (s.nodes.getD i zN) u g))):
 Calls prog 111 #[(gf,()),.int .i64 (i+1),.func (.func 112) #[] #[.pointer (some ⟨g6,0,none⟩),.pointer (some ⟨g7,0,none⟩)]] w
  (fun e w'=>e=.returned (.int .i64 (ownM s i u g).1)/\uB w gf (ownM s i u g).2 F a w'):=by
 have H:=za h;obtain⟨X,HN⟩:=zD (s.nodes.getD i zN);have v:s.nodes[i]?=some X:=by rw[<-HN.o];exact mv (by rw[h.len];exact hi)
 have r:=za (Zf h i hi X v);unfold ownM;rw[HN.o]at aa ⊢;by_cases z:X.k=0
 .rw[ze z];rw[show decide (X.k≠0)=false by simp[z]]at r;clear h h6 h7 aa v z;go_enter func111,ntmps111;go_wp2_with fail
  refine r.o.mono ?_;rintro e B ⟨rfl,rfl⟩;go_wp2;go_ret;exact⟨rfl,uB.same H.o zB⟩
 rw[zb z];rw[show decide (X.k≠0)=true by simp[z]]at r;have y:=za (aa z);have Z:=za (oA h);have af:=za (fun (W:World) (U:Nat) (T:Nat->Prop) (J:TxAt W w F U (gf,()) (tx0 s) T)=>mr J i hi X v);have aj:=za h.fin;obtain⟨XT,P⟩:=zD ((tx0 s).setX i (chgP X u g));rw[P.o]at y ⊢;have V:=za h6;have H7:=za h7;have j:=za al;clear h h6 h7 aa v z al;go_enter func111,ntmps111;go_wp2_with fail
 refine r.o.mono ?_;rintro e B ⟨rfl,rfl⟩;go_wp2_with fail
 refine Z.o.mono ?_;rintro e B ⟨U,T,rfl,S,J⟩;have b:=za S;have ag:=za J;have G:=za (af.o B U T J);clear S J;go_wp2_with fail
 refine G.o.mono ?_;rintro e A ⟨q,n,c,rfl,D,N⟩;have d:=za N;have Y:=za D;clear N D;obtain⟨gb,t⟩:=zD A.heap.size;have O:Hid (B.heap.size<=gb):=by show _;rw[<-t.o];exact d.o.size
 have E:Hid (Below B B (A.alloc (.cells #[X.k,X.m,X.u,X.g,X.s,X.l,X.up,(q,n,c)] 123))):=d.o.alloc d.o.size _;have ab:Hid ((A.alloc (.cells #[X.k,X.m,X.u,X.g,X.s,X.l,X.up,(q,n,c)] 123)).heap[gb]?=some (.cells #[X.k,X.m,X.u,X.g,X.s,X.l,X.up,(q,n,c)] 123)):=by rw[<-t.o];exact zH
 have x:Hid (Below A A (A.alloc (.cells #[X.k,X.m,X.u,X.g,X.s,X.l,X.up,(q,n,c)] 123))):=zB.alloc zL _;have ax:=b.o.size;have R:=((b.o.trans (E.o.mono b.o.size)).cell (p:=⟨g6,0,none⟩) j.o.1).trans V.o;have M:=((b.o.trans (E.o.mono b.o.size)).cell (p:=⟨g7,0,none⟩) j.o.2).trans H7.o;have ae:=za (M8 _ gb g6 g7 X.k X.m X.u X.g X.s X.l X.up u g (q,n,c) ab.o R M ⟨by have:=O.o;have:=j.o.1;omega,by have:=O.o;have:=j.o.2;omega⟩);clear R M
 go_upto_region 5 with fail
 rw[t.o];generalize A.alloc (.cells #[X.k,X.m,X.u,X.g,X.s,X.l,X.up,(q,n,c)] 123)=w3 at *
 go_wp2_with fail
 refine ae.o.mono ?_;rintro e w4 ⟨rfl,L,C⟩;have f:=za (x.o.trans (L.to_below (fun i hi=>by rw[hi];exact vM t.o) x.o.size));have Q:Hid (TxAt w4 w F U (gf,()) (tx0 s) T):=(ag.o.below d.o).below f.o;have I:Hid (ju (fun i=>F i\/T i) (chgP X u g) w4 q n c):=Y.o.below f.o;have K:=za (b.o.trans ((zf d.o f.o).mono b.o.size));have ad:=za (lP Q.o i hi (chgP X u g) q n c I.o (by show (0:Nat)<900;omega));obtain⟨r0,r1,r2,r3,r4,r5,r6,r7⟩:=uT C;clear L C;go_wp2_with fail
 refine ad.o.mono ?_;rintro e w5 ⟨rfl,d5⟩;have ah:=za (d5.old K.o Q.o);obtain⟨T5,t5,_⟩:=d5;have ac:=za (ms H.o ah.o (by rw[<-P.o];exact t5) y.o);clear t5 r0 r1 r2 r3 r4 r5 r6 r7;go_wp2_with fail
 refine ac.o.mono ?_;rintro e w6 ⟨rfl,h6⟩;have V:=za h6;clear h6;go_wp2;go_ret;exact⟨rfl,V.o⟩
theorem Mo (w) (v):
 Calls prog 111 #[(gf,()),(),v] w (fun e w'=>e=.returned (4:Int)/\w=w'):=by
 have a:=za (Uu (gf,()) w);go_enter func111,ntmps111;go_wp2_with fail
 refine a.o.mono ?_;rintro e b ⟨rfl,rfl⟩;go_wp2;go_ret;simp
theorem Ik (w:World) (u g):((w.alloc (.cells #[.int .i64 u] 3)).alloc (.cells #[.int .i64 g] 3)).cell? (w.heap.size,0)=some (.int .i64 u)/\((w.alloc (.cells #[.int .i64 u] 3)).alloc (.cells #[.int .i64 g] 3)).cell? (w.heap.size+1,0)=some (.int .i64 g):=
 ⟨by rw[zC (vH w _ _)];rfl,by rw[zC (vm w _ _)];rfl⟩
theorem L3 (h:FsAt w gf s F a) (i) (z:i<32) (u g) (x:0<=u/\u<=255) (y:0<=g/\g<=255)
 (v:(s.nodes.getD i zN).k≠0->rX s ((tx0 s).setX i (chgP (s.nodes.getD i zN) u g))):
 Calls prog 59 #[(gf,()),.int .i64 (i+1),.int .i64 u,.int .i64 g] w
  (fun e w'=>e=.returned (.int .i64 (ownM s i u g).1)/\uB w gf (ownM s i u g).2 F a w'):=by
 have m:Hid (Below w w ((w.alloc (.cells #[u] 3)).alloc (.cells #[g] 3))):=(zB.alloc zL _).alloc (by simp) _;obtain⟨c,j⟩:=Ik w u g;have l:=za (Mn (h.below m.o) i z w (w.heap.size+1) u g c j ⟨by simp;omega,by simp⟩ v);have b:=za (kV u g x y);obtain⟨M,f⟩:∃M,ownM s i u g=M:=⟨_,rfl⟩;rw[f]at l ⊢;obtain⟨r,p⟩:=M;clear f;clear h v x y;go_enter func59,ntmps59;go_wp2_with fail
 refine (b.o _).mono ?_;rintro e q ⟨rfl,rfl⟩;go_wp2_with fail
 refine l.o.mono ?_;rintro e t ⟨rfl,d⟩;have n:=za (d.after m.o);clear d c j;go_wp2;go_ret;exact⟨rfl,n.o⟩
theorem L4 (w) (u g) (j:0<=u/\u<=255) (k:0<=g/\g<=255):
 Calls prog 59 #[(gf,()),(),.int .i64 u,.int .i64 g] w (fun e w'=>e=.returned (4:Int)/\Below w w w'):=by
 have f:Hid (Below w w ((w.alloc (.cells #[u] 3)).alloc (.cells #[g] 3))):=(zB.alloc zL _).alloc (by simp) _;obtain⟨b,c⟩:=Ik w u g;have d:=za (fun v=>Mo (gf:=gf) ((w.alloc (.cells #[u] 3)).alloc (.cells #[g] 3)) v);have a:=za (kV u g j k);clear j k;go_enter func59,ntmps59;go_wp2_with fail
 refine (a.o _).mono ?_;rintro e h ⟨rfl,rfl⟩;go_wp2_with fail
 refine (d.o _).mono ?_;rintro e i ⟨rfl,rfl⟩;clear b c;go_wp2;go_ret;exact⟨rfl,f.o⟩
