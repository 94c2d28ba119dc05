import Derived.Test.YtakfhadmokoikaaGreatDoorKA41
set_option maxHeartbeats 0
set_option linter.all false
set_option maxRecDepth 100000
namespace Go.Proofs.YtakfhadmokoikaaGreatDoor
open Go.Proofs.Tryz Go.RowKit
variable {F:Nat->Prop} {a:Addr} {gf:Nat} {s:Fs} {w:World}
theorem Vk (n:Nat):(Builtin.zeroCells #[.int .u8 0] n).toList=List.replicate n (Value.int .u8 0):=by
 apply tu
 .simp[Builtin.zeroCells]
 .intro i a b;simp[Builtin.zeroCells,qJ]
theorem Lb {P:Program} (w:World) (t e:TypeId) (i:P.underlying t=some (.slice e)) (d:∀w,(zeroValue e).run P w=.ok (.int .u8 0) w)
 (g o n c:Nat) (cur:Array Value) (f:TypeId) (j:w.heap[g]?=some (.cells cur f)) (h:o+n<=cur.size) (l:0<n) (k:TypeId):
 (Builtin.clear_ #[t] k #[(g,o,n,c)]).run P w=.ok (.tuple #[]) (w.setRow g (cur.toList.take o++List.replicate n (Value.int .u8 0)++cur.toList.drop (o+n)).toArray):=by
 have a:=vE P g o f (Builtin.zeroCells #[.int .u8 0] n).toList 0 cur w j (by rw[Vk,zR];omega) (by rw[Vk];intro v d;rw[x9 d];rfl);rw[Vk]at a;simp only[vA,zR]at a;obtain⟨m,rfl⟩:∃m,n=m+1:=⟨n-1,by omega⟩;have b:Builtin.zeroCells #[.int .u8 0] (m+1)=(List.replicate (m+1) (Value.int .u8 0)).toArray:=by rw[<-Vk]
 simp[Builtin.clear_,wy i,d,Value.cells,b,a]
theorem u8Zv: ∀w,(zeroValue 5).run prog w=.ok (.int .u8 0) w:=(uW (P:=prog) (t:=5) (v:=.int .u8 0) (n:=1) (by kernel_rfl)).1
theorem J5 (k m u g s l a:Int) (v:Value) (w:World):(Instr.field 59 (.agg #[k,m,u,g,s,l,a,v]) 4).run prog w=.ok (.int .i64 s) w:=by kernel_rfl
theorem uP.putGone {w':World} {B:Nat} {T:Nat->Prop} {gt:Nat} {fp:Value} {x:Tx} {rv:Value} {gn cn gd gp:Nat} {gv:Value} {E:List Nd} {pl:List (Int×Value)} (h:uP w B F T gt fp x rv gn cn gd gp gv E pl) (p:TxAt w B F gt fp x T) (q:Value) (l:List Int)
 (s:yK (fun i=>i=gt) w w') (t:w'.heap[gt]?=some (.cells (txR fp x.fo rv (.slice (some ⟨gn,0,none⟩) 32 cn) (.map (some gd)) (.map (some gp)) q x.full x.fake) 150)) (r:w'.ownsRow w 3 1 q l.length (ints l)) (u:l.length<=1000):
 TxAt w' B F gt fp {x with gone:=l} (fun i=>T i\/q.ownBlock=some i):=by
 have f:yK T w w':=s.mono fun i _ a=>by rw[a];exact p.self
 have c:∀b,b<w.heap.size->b≠gt->w'.heap[b]?=w.heap[b]? :=fun b j k=>s.block b j k;have m:∀i,(T i\/q.ownBlock=some i)->T i\/w.heap.size<=i:=fun i a=>a.imp id fun j=>(r.lt i j).1;have e:B<=w.heap.size:=by have j:=p.new gt p.self;have k:=xL h.row;omega
 refine uP.at (x:={x with gone:=l}) (rv:=rv) (gn:=gn) (cn:=cn) (gd:=gd) (gp:=gp) (gv:=q) (E:=E) (pl:=pl) ⟨t,lB h.rows f m,?_,qQ h.nds f m,?_,?_,?_,h.ne,?_,zt h.tn,zt h.td,zt h.tp,fun b c=>zu c⟩ (zt p.self) p.len (fun i a=>?_) (fun i a=>?_) u p.put p.dirty p.rows p.fake
 .exact uV h.own fun b d=>c b (h.own.lt b d).2 (rt h.own h.row (by decide) b d)
 .exact h.dirt.of_block (c gd h.dirt.lt (yF (tG h.row h.dirt)))
 .exact h.puts.of_block (c gp h.puts.lt (yF (tG h.row h.puts)))
 .exact h.secs.keep fun g o _ n=>c g (xL n) (tj n h.row (by decide))
 .exact mw r e
 .rcases a with a|a
  .exact zm (p.fin i a) s.size
  .exact (r.lt i a).2
 .rcases a with a|a
  .exact p.new i a
  .exact zr e (r.lt i a).1
def cutY (s:Fs) (X:Pn) (sz:Int):Uw:=
 if (sp X.P (blkN sz) X.s sz).toNat=0 then ⟨(tx0 s).ow,[],resP X.P (blkN sz)⟩ else
 wrU s.k ⟨(tx0 s).ow,[],resP X.P (blkN sz)⟩ (blkN sz-1) ((sB (tx0 s) s (resP X.P (blkN sz)) (blkN sz-1)).take (sp X.P (blkN sz) X.s sz).toNat++List.replicate (64-(sp X.P (blkN sz) X.s sz).toNat) 0)
def cutT (s:Fs) (i:Nat) (X:Pn) (sz:Int):Tx:={((tx0 s).wow (cutY s X sz).ow) with put:=(cutY s X sz).put,nodes:=s.nodes.set i {X with P:=(cutY s X sz).P,s:=sz},dirty:=putZ [] ((i:Int)+1) (.bool true),gone:=srtI (tU X.P (blkN sz))}
def cutM (s:Fs) (i sz:Nat):Int×Fs:=
 let X:=s.nodes.getD i zN
 if X.k=0 then (4,s) else if X.k≠1 then (12,s) else if X.s=(sz:Int) then (0,s) else (endE s (cutT s i X (sz:Int)),endS s (cutT s i X (sz:Int)))
theorem Rv (h:FsAt w gf s F a) (i:Nat) (hi:i<32) (X:Pn) (hX:s.nodes[i]?=some X) (hk:X.k=1) (hP:ng X.P s.k) (a1:ju X=0)
 (sz:Nat) (aW:sz<=512) (aJ:X.s≠(sz:Int)) (hr:rN s (cutT s i X (sz:Int))):
 Calls prog 64 #[(gf,()),.int .i64 ((i:Int)+1),sz] w
  (fun e w'=>e=.returned (.int .i64 (endE s (cutT s i X (sz:Int))))/\uk w gf (endS s (cutT s i X (sz:Int))) F a w'):=by
 have H:=Lib.hid h;have aS:=gU h i hi X hX;rw[hk,zb (by omega),ze rfl]at aS;have cu:Hid (Calls prog 30 #[(gf,()),.int .i64 ((i:Int)+1)] w (fun e w'=>e=.returned ()/\w=w')):=aS;have cm:=Lib.hid (oh h);have bg:=Lib.hid (fun (W:World) (j:Nat) (T:Nat->Prop) (hT:TxAt W w F j (gf,()) (tx0 s) T)=>mp hT i hi X hX);have cX:=Lib.hid hP;obtain⟨XT,b8⟩:=zD (cutT s i X (sz:Int));rw[b8.o]at hr ⊢;have av:Hid (∀(W:World) (j:Nat) (T:Nat->Prop),Below w w W->TxAt W w F j (gf,()) XT T ->
  Calls prog 38 #[(j,())] W
   (fun e w'=>e=.returned (.int .i64 (endE s XT))/\uk w gf (endS s XT) F a w')):=fun W j T hW hT=>mq H.o hW hT hr
 obtain⟨ee,cl⟩:=zD (endE s XT);obtain⟨es,ck⟩:=zD (endS s XT);rw[cl.o,ck.o]at av ⊢;obtain⟨K,HK⟩:=zD (blkN (sz:Int));have bi:K<=8:=by rw[<-HK.o];exact Vh (by omega)
 obtain⟨bo,ca,af,_⟩:=JV a1 (by omega:X.k≠0);have cq:Hid (X.P.length<=8):=by show _<=_;rw[af];exact Vh bo.2
 obtain⟨G,HG⟩:=zD (srtI (tU X.P K));have be:Hid (G.length=(tU X.P K).length):=by show _=_;rw[<-HG.o];exact (XF _).length_eq
 have bD:Hid (G.length<=8):=by show _<=_;rw[be.o];exact zr (X3 _ _) cq.o
 obtain⟨d,aj⟩:=zD (resP X.P K);have y:Hid (d.length=K):=by show _=_;rw[<-aj.o];exact YU _ _
 have aC:Hid (ng d s.k):=by
  intro r hr;rw[<-aj.o]at hr;unfold resP at hr;rcases yv.1 hr with hr|hr
  .exact hP r (xd hr)
  .have:=x9 hr;have:=h.k0;omega
 obtain⟨f,az⟩:∃f:Nat,Hid (sp X.P K X.s (sz:Int)=(f:Int)):=⟨(sp X.P K X.s (sz:Int)).toNat,by show _=_;have:=(YJ X.P K X.s (sz:Int)).1;omega⟩;have c6:f<64:=by have I:=(YJ X.P K X.s (sz:Int)).2.1;have:=az.o;omega
 have cy:Hid (f≠0->0<K/\d.getD (K-1) 0≠0):=fun h0=>by
  have I:=az.o;rw[<-aj.o];have R:(resP X.P K).getD (K-1) 0≠0:=by
   unfold sp at I;split at I
   .next R=>exact R.2.2
   .omega
  refine⟨?_,R⟩;rcases vh K with hK|hK
  .subst hK;exact yb (by unfold resP;simp) R
  .exact hK
 have bO:Hid (cutY s X (sz:Int)=if f=0 then ⟨(tx0 s).ow,[],d⟩ else wrU s.k ⟨(tx0 s).ow,[],d⟩ (K-1) ((sB (tx0 s) s d (K-1)).take f++List.replicate (64-f) 0)):=by show _=_;unfold cutY;rw[HK.o,aj.o,az.o,yy]
 have b5:Hid (∀(v:Value) (W:World),vQ W v X.P->Calls prog 114 #[.agg #[X.k,X.m,X.u,X.g,X.s,X.l,X.up,v],sz] W (fun e w'=>∃C D gv,e=.returned (.tuple #[.agg #[X.k,X.m,X.u,X.g,sz,X.l,X.up,.slice C K D],gv,f,()]) /\
  w'.ownsRow W 3 1 (C,K,D) K (ints d)/\w'.ownsRow W 3 1 gv G.length (ints G)/\Below W W w'/\∀b,(Value.slice C K D).ownBlock=some b->gv.ownBlock≠some b)):=fun v W hv=>by
  have I:=Ty X.k X.m X.u X.g X.s X.l X.up v X.P (sz:Int) W hv a1 (by omega) (by omega) (by omega);unfold iy at I;rw[HK.o,HG.o,az.o,aj.o,<-be.o]at I;exact I
 have di:decide ((512:Int)<(sz:Int))=false:=zK (by omega);have cJ:¬(512:Int)<(sz:Int):=by omega
 have c7:¬512<sz:=by omega
 have cK:decide ((sz:Int)<0)=false:=zK (by omega);have cC:¬(sz:Int)<0:=by omega
 have b0:(X.s==(sz:Int))=false:=by simpa using aJ
 clear h aS hX hk hP a1 hr bo ca af;go_enter func64,ntmps64;go_wp2_with fail
 refine cu.o.mono ?_;rintro e w1 ⟨rfl,rfl⟩;go_wp2_with fail
 refine cm.o.mono ?_;rintro e w1 ⟨j,T,rfl,bM,hT⟩;have b6:=Lib.hid bM;have cv:=Lib.hid hT;have a8:=Lib.hid (bg.o w1 j T hT);clear bM hT;go_wp2_with fail
 refine a8.o.mono ?_;rintro e w2 ⟨q0,n0,c0,rfl,_,aL⟩;have bq:=Lib.hid (Below.trans b6.o (aL.mono b6.o.size));have bh:=Lib.hid (cv.o.below aL);have a5:=Lib.hid (bg.o w2 j T bh.o);clear aL a8;have cg:=J5;go_wp2_with fail
 refine a5.o.mono ?_;rintro e w3 ⟨q,n,c,rfl,z,aO⟩;have Y:=Lib.hid (Below.trans bq.o (aO.mono bq.o.size));have ac:=Lib.hid (bh.o.below aO);have cd:=Lib.hid (b5.o (q,n,c) w3 z.now);clear aO z a5;go_wp2_with fail
 refine cd.o.mono ?_;rintro e w4 ⟨C,D,gv,rfl,b3,aN,bL,a6⟩;have bf:=Lib.hid b3;have bn:=Lib.hid aN;have aQ:=Lib.hid bL;obtain⟨L,M,rfl,_⟩:=tR aN;have b4:=Lib.hid a6;clear b3 aN bL a6;obtain⟨J,ah⟩:=zD w4.heap.size;have ay:Hid (w3.heap.size<=J):=by show _;rw[<-ah.o];exact aQ.o.size
 have aA:Hid (TxAt w3 w (fun i=>F i\/i=J) j (gf,()) (tx0 s) T):=ac.o.outer fun i hi hg=>hg.resolve_right (by have:=ay.o;omega);obtain⟨rv,gn,cn,gd,gp,dm,E,pl,hl⟩:=aA.o.lies;have cz:=Lib.hid hl;have aT:Hid (Below w3 w3 (w4.alloc (.cells #[X.k,X.m,X.u,X.g,sz,X.l,X.up,(C,K,D)] 59))):=aQ.o.alloc aQ.o.size _;have bC:Hid ((w4.alloc (.cells #[X.k,X.m,X.u,X.g,sz,X.l,X.up,(C,K,D)] 59)).heap[J]?=some (.cells #[X.k,X.m,X.u,X.g,sz,X.l,X.up,(C,K,D)] 59)):=by rw[<-ah.o];exact zH
 have N:Hid ((w4.alloc (.cells #[X.k,X.m,X.u,X.g,sz,X.l,X.up,(C,K,D)] 59)).ownsRow w3 3 1 (C,K,D) K (ints d)/\(w4.alloc (.cells #[X.k,X.m,X.u,X.g,sz,X.l,X.up,(C,K,D)] 59)).ownsRow w3 3 1 (L,G.length,M) G.length (ints G)):=⟨th bf.o (zB.alloc zL _),th bn.o (zB.alloc zL _)⟩;have aK:Hid (J≠j/\j<w3.heap.size/\¬T J/\(∀b,(Value.slice C K D).ownBlock=some b->b<J)/\∀b,(Value.slice L G.length M).ownBlock=some b->b<J):=by
  have I:=xL hl.row;have h2:=ay.o;refine⟨by omega,I,fun R=>?_,fun b B=>?_,fun b B=>?_⟩
  .have:=ac.o.fin J R;omega
  .rw[<-ah.o];exact (bf.o.lt b B).2
  .rw[<-ah.o];exact (bn.o.lt b B).2
 go_upto_region 14 with fail
 rw[ah.o];generalize w4.alloc (.cells #[X.k,X.m,X.u,X.g,sz,X.l,X.up,(C,K,D)] 59)=w5 at *
 have x:=we aT.o hl.row;have b7:=(sZ x).2.2.2.2.2.1;have cE:w5.frozen? (j,197)=false:=zF x;have cs:=Lib.hid x;have V:yK (fun i=>i=j) w5 (w5.setCell (j,197) (L,G.length,M)):=yK.setCell (F:=fun i=>i=j) (p:=⟨j,197,none⟩) rfl _;have bl:(w5.setCell (j,197) (L,G.length,M)).heap[j]?=some (.cells (txR (gf,()) (tx0 s).fo rv (.slice (some ⟨gn,0,none⟩) 32 cn) (.map (some gd)) (.map (some gp)) (L,G.length,M) (tx0 s).full (tx0 s).fake) 150):=by rw[<-hV];exact zX _ _ 197 _ _ _ x
 have bw:(w5.setCell (j,197) (L,G.length,M)).ownsRow w3 3 1 (L,G.length,M) G.length (ints G):=uV N.o.2 fun b B=>V.block b (N.o.2.lt b B).2 (rt N.o.2 x (by decide) b B);have bP:(w5.setCell (j,197) (L,G.length,M)).ownsRow w3 3 1 (C,K,D) K (ints d):=uV N.o.1 fun b B=>V.block b (N.o.1.lt b B).2 (rt N.o.1 x (by decide) b B);have ab:=Lib.hid (cz.o.putGone aA.o (L,G.length,M) G ((yK.of_below aT.o).step V) bl bw (by have:=bD.o;omega));have ax:Hid ((w5.setCell (j,197) (L,G.length,M)).heap[J]?=some (.cells #[X.k,X.m,X.u,X.g,sz,X.l,X.up,(C,K,D)] 59)):=(V.block J (xL bC.o) aK.o.1).trans bC.o;have a0:=Lib.hid bP;have c4:Hid (yK T w3 (w5.setCell (j,197) (L,G.length,M))):=(yK.of_below aT.o).step (V.mono fun i _ hi=>by rw[hi];exact ac.o.self);have t:Hid (Below w w (w5.setCell (j,197) (L,G.length,M))):=Y.o.trans (c4.o.to_below ac.o.new Y.o.size);have bG:Hid (∀(W:World) (T':Nat->Prop) (q':Option Addr) (c':Nat) (U:Uw),cutY s X (sz:Int)=U->TxAt W w (fun i=>F i\/i=J) j (gf,()) {(tx0 s).wow U.ow with put:=U.put,gone:=G} T'->jb (fun i=>F i\/T' i) {X with P:=U.P,s:=(sz:Int)} W q' K c' ->
  Calls prog 37 #[(j,()),.int .i64 ((i:Int)+1),.agg #[X.k,X.m,X.u,X.g,sz,X.l,X.up,(q',K,c')]] W
   (fun e w'=>e=.returned (.tuple #[])/\vS w F j (gf,()) XT T' W w')):=fun W T' q' c' U ci hW z=>by
  have br:=lI (hW.outer fun r _ hr=>zt hr) i hi {X with P:=U.P,s:=(sz:Int)} q' K c' z (by show (0:Nat)<900;omega);have e:XT={({(tx0 s).wow U.ow with put:=U.put,gone:=G}:Tx) with nodes:=({(tx0 s).wow U.ow with put:=U.put,gone:=G}:Tx).nodes.set i {X with P:=U.P,s:=(sz:Int)},dirty:=putZ ({(tx0 s).wow U.ow with put:=U.put,gone:=G}:Tx).dirty ((i:Int)+1) (.bool true)}:=by rw[<-b8.o];unfold cutT;rw[ci,HK.o,HG.o];rfl
  rw[e];exact br
 have cj:=b7;clear hl x V bl bw bP cg;by_cases ai:f=0
 .subst ai;have aM:Hid (cutY s X (sz:Int)=⟨(tx0 s).ow,[],d⟩):=by show _=_;rw[bO.o];rfl
  have cw:decide ((0:Int)<((0:Nat):Int))=false:=rfl
  go_upto_region 20 with fail
  generalize w5.setCell (j,197) (L,G.length,M)=w6 at *
  obtain⟨r0,r1,r2,r3,r4,r5,r6,r7⟩:=uI ax.o;have z:jb (fun i=>F i\/(T i\/(Value.slice L G.length M).ownBlock=some i)) {X with P:=d,s:=(sz:Int)} w6 C K D:=by
   have I:vQ w6 (C,K,D) d:=(by have:=xT.of_owns a0.o;unfold vQ;rw[y.o];exact this);refine fY I fun b B am S=>?_;have h2:=(a0.o.lt b B).1;rcases S with S|S|S
   .have:=H.o.fin b S;have:=Y.o.size;omega
   .have:=ac.o.fin b S;omega
   .exact b4.o b B S
  have cf:=Lib.hid (bG.o w6 _ C D _ aM.o ab.o z);clear z;go_wp2_with fail
  refine cf.o.mono ?_;rintro e w9 ⟨rfl,d9⟩;have aE:=Lib.hid (d9.old t.o (ab.o.outer fun r _ hr=>zt hr));obtain⟨T9,t9,_⟩:=d9;have aG:=Lib.hid (av.o w9 j T9 aE.o t9);clear t9 r0 r1 r2 r3 r4 r5 r6 r7;go_wp2_with fail
  refine aG.o.mono ?_;rintro e Q ⟨rfl,al⟩;have aR:=Lib.hid al;clear al;go_wp2;go_ret;exact⟨rfl,aR.o⟩
 .obtain⟨da,bI⟩:=cy.o ai;have cw:decide ((0:Int)<(f:Int))=true:=yf (by omega);have cY:(0:Int)<(f:Int):=by omega
  have cV:0<f:=by omega
  have iK:IntKind.i64.wrap ((K:Int)-1)=((K-1:Nat):Int):=by rw[zQ _ (by omega)];omega
  obtain⟨A,a3⟩:=zD (K-1);rw[a3.o]at iK bI;have aZ:A<8:=by have:=a3.o;omega
  have aq:A<d.length:=by rw[y.o];have:=a3.o;omega
  have aX:d.getD A 0=d[A]:=by rw[zh,zf aq];rfl
  have ct:=aC.o _ (zz aq);rw[aX]at bI;have cb:=H.o.k1;obtain⟨p',o',ar⟩:∃p' o',ownU (tx0 s).ow s.k d[A]=(p',o'):=⟨_,_,rfl⟩;have aw:∀q∈d,PtR {tx0 s with gone:=G} s q:=fun q hq=>by have I:=aC.o q hq;exact⟨I.1,by omega,zt I.2⟩
  have au:vQ (w5.setCell (j,197) (L,G.length,M)) (C,K,D) d:=by have:=xT.of_owns a0.o;unfold vQ;rw[y.o];exact this
  have am:=LZ ab.o (H.o.below t.o) {X with P:=d,s:=(sz:Int)} C K D au A aZ aw (by show d.length<=8;rw[y.o];exact bi);have ap:=Iv ab.o (H.o.below t.o) d A aw;have aU:sB {tx0 s with gone:=G} s d A=sB (tx0 s) s d A:=rfl;obtain⟨D0,aD⟩:=zD (sB (tx0 s) s d A);rw[show (({X with P:=d,s:=(sz:Int)}:Pn).P)=d from rfl,aU,aD.o]at am;rw[aU,aD.o]at ap;have ce:=Lib.hid am;have an:=Lib.hid ap;have b2:=Lib.hid au;have aM:Hid (cutY s X (sz:Int)=⟨o',putZ [] p' (D0.take f++List.replicate (64-f) 0),d.set A p'⟩):=by show _=_;rw[bO.o,zb ai,a3.o,aD.o];unfold wrU;rw[show ((⟨(tx0 s).ow,[],d⟩:Uw).P.getD A 0)=d[A] from aX,ar]
  have b1:=Lib.hid ar;have bz:Hid (0<=d[A]/\d[A]<=1000000):=by show 0<=d[A]/\d[A]<=1000000;omega
  clear am ap aU au ct ar aw
  go_upto_region 16 with fail
  generalize w5.setCell (j,197) (L,G.length,M)=w6 at *
  obtain⟨r0,r1,r2,r3,r4,r5,r6,r7⟩:=uI ax.o;go_wp2_with fail
  refine ce.o.mono ?_;rintro e w7 ⟨v7,rfl,g,Z,ag,bK,a2,aI,a4,bJ⟩;rw[an.o]at bK a4 a2;subst bK;have ae:Hid (w6.heap.size<=g/\64<=Z):=a2;have bF:64<=ag.size:=by have I:=congrArg List.length a4;rw[zi,vO,an.o,yp]at I;omega
  have bN:=fun ty=>Lb (P:=prog) w7 23 5 u8sT u8Zv g f (64-f) (Z-f) ag _ aI (by omega) (by omega) ty;obtain⟨aa,bp⟩:=zD ((ag.toList.take f++List.replicate (64-f) (Value.int .u8 0)++ag.toList.drop (f+(64-f))).toArray);rw[bp.o]at bN;have O:Hid (Below w6 w6 (w7.setRow g aa)):=Below.setRow bJ a2.1 _;have bZ:Hid ((w7.setRow g aa).heap[g]?=some (.cells aa 5)):=yi _ _ _ _ _ _ aI;have cc:Hid (aa.toList.take 64=u8s (D0.take f++List.replicate (64-f) 0)):=by
   show _=_;rw[<-bp.o,xV];have e1:(ag.toList.take f++List.replicate (64-f) (Value.int .u8 0)).length=64:=(by rw[zl,zi,zR,yp];omega);rw[yR (by rw[e1];omega),zv (by rw[e1];omega),qh]
   congr 1
   .rw[od,<-a4,vf]
    congr 1
    omega
   .simp[u8s]
  clear a2 aI a4 bJ r0 r1 r2 r3 r4 r5 r6 r7;have cQ:=zW (64-(f:Int));have dg:¬Z=f:=by have:=ae.o.2;omega
  have cD:f<=Z:=by have:=ae.o.2;omega
  go_upto_region 19 with fail
  generalize w7.setRow g aa=w8 at *
  have a9:su w8 w (.slice (some ⟨g,0,none⟩) 64 Z) (D0.take f++List.replicate (64-f) 0):=⟨g,Z,aa,rfl,by rw[zl,zi,zR,an.o];omega,ae.o.2,zr t.o.size ae.o.1,bZ.o,cc.o⟩;have aP:¬(T J\/(Value.slice L G.length M).ownBlock=some J):=fun R=>by
   rcases R with R|R
   .exact aK.o.2.2.1 R
   .have:=aK.o.2.2.2.2 J R;omega
  have bY:=Lib.hid (LY H.o (t.o.trans (O.o.mono t.o.size)) (ab.o.below O.o) J {X with P:=d,s:=(sz:Int)} C K D (we O.o ax.o) (xT.below b2.o O.o) ⟨zu rfl,aP,zr Y.o.size ay.o⟩ A aq (by rw[y.o];exact bi) (by show (256:Int)<1000000;omega) bz.o p' o' b1.o _ _ a9 (fun b B R=>by injection B with B;have bt:g=b:=B;have I:=ab.o.fin b R;have:=ae.o.1;omega) (by show (0:Nat)<900;omega));have cG:Hid (J<w6.heap.size):=xL ax.o;clear a9 bN bF;go_wp2_with fail
  refine bY.o.mono ?_;rintro e Q ⟨rfl,T2,g2,c2,ba,u1,u2,u3,u4,⟨u5,u6,u7⟩,bm,bj,u9⟩;have ao:TxAt Q w (fun i=>F i\/i=J) j (gf,()) {(tx0 s).wow o' with put:=putZ [] p' (D0.take f++List.replicate (64-f) 0),gone:=G} T2:=ba;have h9:vQ Q (g2,0,K,c2) (d.set A p'):=by
   refine⟨by simp[ints],zu ⟨g2,0,c2,by rw[xG,y.o],fun r u hr=>?_⟩⟩;rw[yL,zC bj,<-zP];have ch:r<d.length:=(by have:=(zy.1 hr).1;simpa[ints]using this);have h3:(bm.toList.take d.length)[r]?=some u:=by have c1:bm.toList.take d.length=ints (d.set A p'):=u9;rw[c1];exact hr
   rwa [zI,ze ch]at h3
  have z:jb (fun i=>F i\/T2 i) {X with P:=d.set A p',s:=(sz:Int)} Q (some ⟨g2,0,none⟩) K c2:=by
   refine fY h9 fun b B am S=>?_;injection B with B;have bt:g2=b:=B;subst bt;rcases S with S|S
   .have I:=H.o.fin _ S;have h2:=t.o.size;have h3:=O.o.size;omega
   .exact u6 S
  have aY:=Lib.hid (bG.o Q _ (some ⟨g2,0,none⟩) c2 _ aM.o ao z);have bv:=Lib.hid (ao.outer (F':=F) fun r _ hr=>zt hr);have aB:Q.heap[J]?=some (.cells #[X.k,X.m,X.u,X.g,sz,X.l,X.up,(g2,0,K,c2)] 59):=by have:=u4;rw[y.o]at this;exact this
  obtain⟨r0,r1,r2,r3,r4,r5,r6,r7⟩:=uI aB;have aF:Hid (Below w w Q):=(t.o.trans (O.o.mono t.o.size)).trans (u3.to_below (fun i hi=>by
   rcases hi with (hi|hi)|hi
   .exact ac.o.new i hi
   .have I:=(a0.o.lt) ;have h2:=(N.o.2.lt i hi).1;have:=Y.o.size;omega
   .rw[hi];exact zr Y.o.size ay.o) (zr t.o.size O.o.size))
  clear ba ao u1 u2 u3 u4 u5 u6 u7 bj u9 h9 z aB;go_wp2_with fail
  refine aY.o.mono ?_;rintro e cp ⟨rfl,d9⟩;have aE:=Lib.hid (d9.old aF.o bv.o);obtain⟨T9,t9,_⟩:=d9;have aG:=Lib.hid (av.o cp j T9 aE.o t9);clear t9 r0 r1 r2 r3 r4 r5 r6 r7;go_wp2_with fail
  refine aG.o.mono ?_;rintro e dk ⟨rfl,al⟩;have aR:=Lib.hid al;clear al;go_wp2;go_ret;exact⟨rfl,aR.o⟩
theorem ME (h:FsAt w gf s F a) (i:Nat) (I:i<32) (X:Pn) (G:s.nodes[i]?=some X) (J:X.k=1) (sz:Nat) (K:sz<=512) (H:X.s=(sz:Int)):
 Calls prog 64 #[(gf,()),.int .i64 ((i:Int)+1),sz] w
  (fun e w'=>e=.returned ()/\Below w w w'):=by
 have b:=gU h i I X G;rw[J,zb (by omega),ze rfl]at b;have m:Hid (Calls prog 30 #[(gf,()),.int .i64 ((i:Int)+1)] w (fun e w'=>e=.returned ()/\w=w')):=b;have l:=Lib.hid (oh h);have q:=Lib.hid (fun (W:World) (p:Nat) (T:Nat->Prop) (j:TxAt W w F p (gf,()) (tx0 s) T)=>mp j i I X G);have y:decide ((512:Int)<(sz:Int))=false:=zK (by omega);have u:¬(512:Int)<(sz:Int):=by omega
 have t:¬512<sz:=by omega
 have v:decide ((sz:Int)<0)=false:=zK (by omega);have x:¬(sz:Int)<0:=by omega
 have B:(X.s==(sz:Int))=true:=by simpa using H
 clear h b G J;go_enter func64,ntmps64;go_wp2_with fail
 refine m.o.mono ?_;rintro e r ⟨rfl,rfl⟩;go_wp2_with fail
 refine l.o.mono ?_;rintro e r ⟨p,T,rfl,g,j⟩;have d:=Lib.hid g;have c:=Lib.hid (q.o r p T j);clear g j;have z:=J5;go_wp2_with fail
 refine c.o.mono ?_;rintro e E ⟨A,C,D,rfl,_,f⟩;have n:=Lib.hid (Below.trans d.o (f.mono d.o.size));clear f;go_wp2;go_ret;exact⟨rfl,n.o⟩
theorem LK (w:World) (n:Int) (sz:Nat) (e:Int) (g:e=4\/e=12) (f:Calls prog 30 #[(gf,()),n] w (fun y w'=>y=.returned e/\w=w')):
 Calls prog 64 #[(gf,()),n,sz] w (fun y w'=>y=.returned e/\w=w'):=by
 have a:=Lib.hid f;have c:decide ((sz:Int)<0)=false:=zK (by omega);have d:¬((sz:Int)<0):=by omega
 clear f;rcases g with rfl|rfl;all_goals
  go_enter func64,ntmps64
  go_wp2_with fail
  refine a.o.mono ?_;rintro e b ⟨rfl,rfl⟩;go_wp2;go_ret;simp
structure j7 (s:Fs) (i sz:Nat):Prop where
 pts:ng (s.nodes.getD i zN).P s.k
 right:ju (s.nodes.getD i zN)=0
 run:(s.nodes.getD i zN).s≠(sz:Int)->rN s (cutT s i (s.nodes.getD i zN) (sz:Int))
theorem Tj (h:FsAt w gf s F a) (i:Nat) (t:i<32) (sz:Nat) (q:sz<=512) (r:(s.nodes.getD i zN).k=1->j7 s i sz):
 Calls prog 64 #[(gf,()),.int .i64 ((i:Int)+1),sz] w
  (fun e w'=>e=.returned (.int .i64 (cutM s i sz).1)/\uk w gf (cutM s i sz).2 F a w'):=by
 obtain⟨N,g⟩:=zD (s.nodes.getD i zN);have d:s.nodes[i]?=some N:=by rw[<-g.o];exact mu (by rw[h.len];exact t)
 have f:=gU h i t N d;unfold cutM;rw[g.o]at r ⊢;by_cases m:N.k=0
 .rw[ze m]at f ⊢;exact (LK w _ sz 4 (zt rfl) f).mono fun e w' ⟨b,c⟩=>⟨b,c▸uk.same h zB⟩
 .rw[zb m]at f ⊢;by_cases b:N.k=1
  .rw[zb (fun p=>p b)];obtain⟨n,j,l⟩:=r b;rw[g.o]at n j l;by_cases c:N.s=(sz:Int)
   .rw[ze c];exact (ME h i t N d b sz q c).mono fun e w' ⟨b,c⟩=>⟨b,uk.same h c⟩
   .rw[zb c];exact Rv h i t N d b n j sz q c (l c)
  .rw[zb b]at f;rw[ze b];exact (LK w _ sz 12 (zu rfl) f).mono fun e w' ⟨b,c⟩=>⟨b,c▸uk.same h zB⟩
theorem Tk (w:World) (sz:Nat):
 Calls prog 64 #[(gf,()),(),sz] w (fun y w'=>y=.returned (4:Int)/\w=w'):=LK w 0 sz 4 (zt rfl) (Xe _ w)
theorem RA (w:World) (i:Int) (name:ByteArray) (d:ru name=true):
 Calls prog 65 #[(gf,()),i,.string name,()] w (fun y w'=>y=.returned (4:Int)/\w=w'):=by
 have a:=Lib.hid (fun W=>gV name W);rw[d]at a;have b:=Lib.hid (VH (gf,()) w);go_enter func65,ntmps65;go_wp2_with fail
 refine (a.o w).mono ?_;rintro e c ⟨rfl,rfl⟩;go_wp2_with fail
 refine b.o.mono ?_;rintro e c ⟨rfl,rfl⟩;go_wp2;go_ret;simp
theorem Ry (h:FsAt w gf s F a) (i:Nat) (X:Pn) (D:List Int) (R:DirS s i X D):
 Calls prog 110 #[(gf,()),.int .i64 ((i:Int)+1)] w (fun e w'=>∃v,e=.returned (.tuple #[v,()])/\w'.ownsRow w 188 2 v (outD D).length (ents (outD D))/\Below w w w'):=by
 have m:=Lib.hid (V7 h i R.lt X R.nd);rw[R.k,zb (by omega),ze rfl]at m;have r:=Lib.hid (oh h);have x:Hid (∀(g:Nat) (T:Nat->Prop) (W:World),Below w w W->TxAt W w F g (gf,()) ⟨s.fo,s.rows,s.nodes,[],[],[],false,256⟩ T ->
  Calls prog 107 #[(g,()),.int .i64 ((i:Int)+1)] W (fun e w'=>∃v,e=.returned v/\tQ w' v D/\Below W W w')):=fun g T W I J=>by
  have:=V0 J (h.below I) i R.lt X R.nd (iD R.pts h.k1) R.len R.sz;have N:secT ⟨s.fo,s.rows,s.nodes,[],[],[],false,256⟩ s=secE s:=by funext n;rfl
  rw[N,R.by_]at this;exact this.mono fun e w' ⟨v,K,B,M⟩=>⟨v,K,⟨xT.of_owns B,lL B⟩,M⟩
 have y:D.length<=1000:=by have:=Kt (secE s) X.P X.s;rw[R.by_]at this;have:=R.sz;have:=R.len;omega
 have A:Hid (∀(v:Value) (W:World),tQ W v D->Calls prog 144 #[v] W (Zs D W)):=fun v W q=>WD v D W q R.byte (by omega);have t:=Lib.hid R.ok;clear h R y;go_enter func110,ntmps110;go_wp2_with fail
 refine m.o.mono ?_;rintro e w' ⟨rfl,rfl⟩;go_wp2_with fail
 refine r.o.mono ?_;rintro e E ⟨g,T,rfl,l,c⟩;have d:=Lib.hid l;have z:=Lib.hid c;clear l c;go_wp2_with fail
 refine (x.o g T E d.o z.o).mono ?_;rintro e Q ⟨v,rfl,q,j⟩;have O:=Lib.hid q;have f:=Lib.hid (Below.step d.o j);clear q j;go_wp2_with fail
 refine (A.o v Q O.o).mono ?_;intro e H b;rcases b with⟨_,b⟩|⟨b,_⟩
 .obtain⟨G,rfl,C,p⟩:=b;have L:=Lib.hid (KL C f.o.size);have u:Hid (Below w w H):=Below.step f.o p;clear C p;go_wp2;go_ret2;exact⟨G,rfl,L.o,u.o⟩
 .rw[t.o]at b;cases b
def dirB (s:Fs) (i:Nat):List Int:=tc (secE s) (s.nodes.getD i zN).P (s.nodes.getD i zN).s
def kF (s:Fs) (n:Int):Bool:=decide ((s.nodes.getD (n-1).toNat zN).k=2)
def qp (s:Fs):List Int->List En->List Int
 | out,[]=>out
 | out,x::l=>qp s (if kF s x.2&&!(out.contains x.2) then out++[x.2] else out) l
def pz (s:Fs):Nat->Nat->List Int->List Int
 | 0,_,out=>out
 | f+1,i,out=>if i<out.length/\out.length<=32 then pz s f (i+1) (qp s out (outD (dirB s (out.getD i 0-1).toNat))) else out
def qX (s:Fs):List Int:=pz s 33 0 [1]
def fW (s:Fs):Prop:=(∀i,i<32->(s.nodes.getD i zN).k=2->DirS s i (s.nodes.getD i zN) (dirB s i))/\(s.nodes.getD 0 zN).k=2
def DlOk (s:Fs) (out:List Int):Prop:=∀n∈out,1<=n/\n<=32/\(s.nodes.getD (n-1).toNat zN).k=2
theorem Ys {i:Nat} (h:DirS s i (s.nodes.getD i zN) (dirB s i)):(outD (dirB s i)).length<=32/\∀x∈outD (dirB s i),1<=x.2/\x.2<=32:=by obtain⟨a,b,_⟩:=(rZ _).1 (lr h.ok).2.1;exact⟨a,fun x c=>(jo (b x c)).2⟩
theorem Je (s:Fs):∀(l:List En) (out:List Int) (x:En),qp s out (l++[x])=(if kF s x.2&&!((qp s out l).contains x.2) then qp s out l++[x.2] else qp s out l)
 | [],out,x=>rfl
 | y::l,out,x=>Je s l _ x
theorem Vn {s:Fs}:∀{l:List En} {out:List Int},DlOk s out->(∀x∈l,1<=x.2/\x.2<=32)->DlOk s (qp s out l)/\out.length<=(qp s out l).length/\(qp s out l).length<=out.length+l.length
 | [],out,h,_=>⟨h,zL,zL⟩
 | x::l,out,h,e=>by
  unfold qp;split
  .next j=>
   have g:(s.nodes.getD (x.2-1).toNat zN).k=2:=(by have:=(Bool.and_eq_true_iff.1 j).1;exact nA this);have i:DlOk s (out++[x.2]):=fun n d=>by
    rcases yv.1 d with d|d
    .exact h n d
    .rw[xw]at d;subst d;have:=e x (xx ..);exact⟨this.1,this.2,g⟩
   obtain⟨a,b,c⟩:=Vn i (fun y f=>e y (xh _ f));rw[zl]at b c;simp at b c ⊢;exact⟨a,by omega,by omega⟩
  .obtain⟨a,b,c⟩:=Vn h (fun y f=>e y (xh _ f));exact⟨a,b,by simp;omega⟩
theorem R6 (h:FsAt w gf s F a) (hd:fW s):
 Calls prog 60 #[(gf,())] w (fun e w'=>∃v,e=.returned v/\w'.ownsRow w 3 1 v (qX s).length (ints (qX s))/\Below w w w'):=by
 have H:=Lib.hid h;have HD:=Lib.hid hd;obtain⟨R,HR⟩:=zD (qX s);rw[HR.o];have aK:Hid (s.nodes.length=32):=h.len;have bi:Hid (Below w w (w.alloc (.cells #[(1:Int)] 3))):=zB.alloc zL _;have bp:Hid ((w.alloc (.cells #[(1:Int)] 3)).ownsRow w 3 1 (.slice (some ⟨w.heap.size,0,none⟩) 1 1) 1 (ints [1])):=⟨rfl,zu ⟨_,1,_,rfl,zL,zH,zL,by decide,rfl,rfl⟩⟩;obtain⟨i0,aN,aD,aQ,aM⟩:=xp jz;have b0:=Lib.hid aN;have bb:=Lib.hid aD;have aX:=Lib.hid aQ;have bh:=Lib.hid aM;have bd:Hid (DlOk s [1]):=fun n hn=>by rw[xw]at hn;subst hn;exact⟨by omega,by omega,hd.2⟩
 clear h hd aN aD aQ aM;go_enter func60,ntmps60;go_wp2;generalize ca:w.alloc (.cells #[(1:Int)] 3)=wa at *
 go_loopw [3,4] (fun o i wr=>∃(k f:Nat) (j:List Int),k<=32/\f+k=33/\i=.int .i64 k/\j.length<=64/\Hid (DlOk s j/\pz s f k j=R)/\Hid (wr.ownsRow w 3 1 o j.length (ints j))/\Hid (Below w w wr)) (fun _ i _=>33-(intOf i).toNat)
 case atStart=>exact⟨0,33,[1],by omega,by omega,rfl,by simp,⟨bd.o,HR.o⟩,bp.o,bi.o⟩
 case round=>
  obtain⟨k,f,j,hk,bV,rfl,bc,a1,HO,HB⟩:=hrel;obtain⟨q,c,hv,_⟩:=tR HO.o;subst hv;obtain⟨L,HL⟩:=zD j.length;rw[HL.o]at HO bc ⊢;obtain⟨f,rfl⟩:∃f',f=f'+1:=⟨f-1,by omega⟩;have d:=a1.o.2;unfold pz at d;rw[HL.o]at d;by_cases ae:k<L;case neg=>
   rw[zb (fun hc=>ae hc.1)]at d;have d1:decide ((k:Int)<(L:Int))=false:=zK (by omega);have d2:¬(k:Int)<(L:Int):=(by omega);have ad:Hid (R.length=L/\ints R=ints j):=(by rw[<-d];exact⟨HL.o,rfl⟩);clear d ae;go_wp2;go_ret;exact⟨_,rfl,by rw[ad.o.1,ad.o.2];exact HO.o,HB.o⟩
  have d1:decide ((k:Int)<(L:Int))=true:=yf (by omega);have d2:(k:Int)<(L:Int):=by omega
  by_cases aH:L<=32;case neg=>
   rw[zb (fun hc=>aH hc.2)]at d;have d3:decide ((L:Int)<=32)=false:=zK (by omega);have d4:¬(L:Int)<=32:=(by omega);have ad:Hid (R.length=L/\ints R=ints j):=(by rw[<-d];exact⟨HL.o,rfl⟩);clear d ae;go_wp2;go_ret;exact⟨_,rfl,by rw[ad.o.1,ad.o.2];exact HO.o,HB.o⟩
  have d3:decide ((L:Int)<=32)=true:=yf (by omega);have d4:(L:Int)<=32:=by omega
  rw[ze ⟨ae,aH⟩]at d;have az:k<j.length:=by rw[HL.o];exact ae
  have a6:j.getD k 0=j[k]:=by rw[zh,zf az];rfl
  obtain⟨n1,n2,n3⟩:=a1.o.1 _ (zz az);obtain⟨n,hn⟩:∃n:Nat,j[k]=(n:Int)+1:=⟨(j[k]-1).toNat,by omega⟩;rw[a6,hn]at d;rw[hn]at n1 n2 n3;have e:((n:Int)+1-1).toNat=n:=by omega
  rw[e]at d n3;have a8:n<32:=by omega
  have ax:=HD.o.1 n a8 n3;have ac:=Lib.hid (Ys ax);have aJ:=Lib.hid (Ry (H.o.below HB.o) n _ _ ax);obtain⟨J,aG⟩:=zD (outD (dirB s n));rw[aG.o]at d ac aJ;obtain⟨g,cd,hq,aS,aB⟩:=HO.o.form (by omega);injection hq with e1 e2 e3;subst e1 e3;clear e2;have ar:wr.cell? (g,k)=some (.int .i64 ((n:Int)+1)):=by
   have:=HO.o.cells (g:=g) rfl k (.int .i64 ((n:Int)+1)) (by unfold ints;rw[xy,zf az,hn];rfl);have G:(⟨g,0,none⟩:Addr).add k=⟨g,k,none⟩:=by unfold Addr.add;split<;>simp_all
   rwa [G]at this
  have b4:=Lib.hid d;have bK:Hid (g<wr.heap.size/\w.heap.size<=g):=⟨aB,aS⟩;clear d a6 n1 n2 n3 hn e ax aS aB;go_wp2_with fail
  refine aJ.o.mono ?_;rintro e w2 ⟨v2,rfl,aw,av⟩;obtain⟨q2,c2,bl,_⟩:=tR aw;subst bl;have aF:=Lib.hid aw;obtain⟨M,ag⟩:=zD J.length;rw[ag.o]at aF ac ⊢;have bg:Hid (Below w w w2):=HB.o.trans (av.mono HB.o.size);have bs:Hid (w2.ownsRow w 3 1 (g,0,L,c) L (ints j)):=th HO.o av;clear aw av ar;go_wp2;go_loopw [3,36] (fun o i wq=>∃(t:Nat),t<=M/\i=.int .i64 t/\Hid (wq.ownsRow w 3 1 o (qp s j (J.take t)).length (ints (qp s j (J.take t))))/\Hid (wq.ownsRow wr 188 2 (q2,M,c2) M (ents J))/\Hid (Below w w wq)) (fun _ i _=>M-(intOf i).toNat);case atStart=>exact⟨0,ye _,rfl,by show World.ownsRow _ _ _ _ _ _ _;rw[xE];show World.ownsRow _ _ _ _ _ j.length (ints j);rw[HL.o];exact bs.o,aF.o,bg.o⟩
  case round=>
   obtain⟨t,ht,rfl,S,ak,ai⟩:=hrel;obtain⟨sd,Z,ab⟩:=Vn (l:=J.take t) a1.o.1 (fun x hx=>ac.o.2 x (xd hx));obtain⟨P,V⟩:=zD (qp s j (J.take t));rw[V.o]at S sd Z ab;rw[zi,ag.o,HL.o]at ab;rw[HL.o]at Z;have b7:=ac.o.1;have am:P.length<=64:=(by omega);obtain⟨qo,co,bn,_⟩:=tR S.o;subst bn;obtain⟨LO,D⟩:=zD P.length;rw[D.o]at S am Z ab ⊢;have bv:=Lib.hid sd;by_cases be:t<M
   .have a0:t<J.length:=(by rw[ag.o];exact be);have T:=Je s (J.take t) j J[t];rw[zY a0,V.o]at T;obtain⟨nm,O,hx⟩:∃nm O,J[t]=(nm,O):=⟨_,_,rfl⟩;rw[hx]at T;have af:=ac.o.2 _ (zz a0);rw[hx]at af;obtain⟨x,bf⟩:∃x:Nat,O=(x:Int)+1:=⟨(O-1).toNat,by have:=af.1;show O=((O-1).toNat:Int)+1;have h3:(1:Int)<=O:=this;omega⟩;subst bf;have ap:x<32:=(by have h3:(x:Int)+1<=32:=af.2;omega);have ex:((x:Int)+1-1).toNat=x:=(by omega);obtain⟨N,HN⟩:=zD (s.nodes.getD x zN);have aI:s.nodes[x]?=some N:=(by rw[<-HN.o];exact mu (by rw[aK.o];exact ap));have aA:kF s ((x:Int)+1)=decide (N.k=2):=(by unfold kF;rw[ex,HN.o]);rw[show ((nm,(x:Int)+1):En).2=(x:Int)+1 from rfl,aA]at T;obtain⟨ge,bF,ba,b6,b8⟩:=ak.o.form (by omega);injection ba with e1 e2 e3;subst e1 e3;clear e2;have ah:=Vv J t a0;rw[hx]at ah;have G:∀r,(⟨ge,0,none⟩:Addr).add r=⟨ge,r,none⟩:=fun r=>(by unfold Addr.add;split<;>simp_all);have c0:wr.cell? (ge,t*2)=some (.string nm):=(by rw[<-G];exact ak.o.cells (g:=ge) rfl _ _ ah.1);have c1:wr.cell? (ge,t*2+1)=some (.int .i64 ((x:Int)+1)):=(by rw[<-G];exact ak.o.cells (g:=ge) rfl _ _ ah.2);have aa:Hid (Below wr wr (wr.alloc (.cells #[.string nm,.int .i64 ((x:Int)+1)] 188))):=zB.alloc zL _;have I:=Lib.hid (Yo (H.o.below (Below.step ai.o aa.o)) x ap N aI);have C:=Lib.hid T;clear ah G T af aA aI hx sd;have E:=Lib.hid (fun (W:World) (hW:Below wr wr W)=>(show _/\_/\_ from ⟨th S.o hW,th ak.o hW,Below.step ai.o hW⟩));by_cases U:N.k=0
    .have hs:oJ N=.tuple #[.agg #[(),(),(),(),(),()],(4:Int)]:=(by unfold oJ;rw[ze U]);rw[hs]at I;have B:decide (N.k=2)=false:=zK (by omega);rw[B]at C;clear hs B U;go_wp2_with fail
     refine I.o.mono ?_;rintro e Q ⟨rfl,y⟩;have z:=Lib.hid (E.o _ (Below.step aa.o (y.alloc y.size (.cells #[(),(),(),(),(),()] 39))));have A:Hid (qp s j (J.take (t+1))=P):=(by show _=_;rw[C.o];exact rfl);clear y;go_wp2;go_roundw;case rel=>exact⟨t+1,by omega,by go_num,by show World.ownsRow _ _ _ _ _ _ _;rw[A.o,D.o];exact z.o.1,z.o.2.1,z.o.2.2⟩
     case measure=>simp[intOf];omega
    have hs:oJ N=.tuple #[.agg #[N.k,N.m,N.u,N.g,N.s,N.l],()]:=(by unfold oJ;rw[zb U]);rw[hs]at I;by_cases B:N.k=2;case neg=>
     have b2:(N.k==2)=false:=(by simpa using B);have Y:decide (N.k=2)=false:=zK B;rw[Y]at C;clear hs B U Y;go_wp2_with fail
     refine I.o.mono ?_;rintro e Q ⟨rfl,y⟩;have z:=Lib.hid (E.o _ (Below.step aa.o (y.alloc y.size (.cells #[N.k,N.m,N.u,N.g,N.s,N.l] 39))));have A:Hid (qp s j (J.take (t+1))=P):=(by show _=_;rw[C.o];exact rfl);clear y;go_wp2;go_roundw;case rel=>exact⟨t+1,by omega,by go_num,by show World.ownsRow _ _ _ _ _ _ _;rw[A.o,D.o];exact z.o.1,z.o.2.1,z.o.2.2⟩
     case measure=>simp[intOf];omega
    have b2:(N.k==2)=true:=(by simp[B]);have Y:decide (N.k=2)=true:=yf B;rw[Y]at C;clear hs B U Y;go_wp2_with fail
    refine I.o.mono ?_;rintro e Q ⟨rfl,y⟩;have z:=Lib.hid (E.o _ (Below.step aa.o (y.alloc y.size (.cells #[N.k,N.m,N.u,N.g,N.s,N.l] 39))));have al:=Lib.hid (IW (qo,LO,co) P ((x:Int)+1) _ (by have h1:=xT.of_owns z.o.1;unfold vQ;rw[D.o];exact h1) (by rw[D.o];omega));have bZ:Q.cell? (wr.heap.size,1)=some (.int .i64 ((x:Int)+1)):=(y.cell (p:=⟨wr.heap.size,1,none⟩) (by simp)).trans (by rw[zC (zT wr _)];rfl);have aE:wr.heap.size<Q.heap.size:=(by have:=y.size;simp at this;omega);have bT:¬wr.heap.size=Q.heap.size:=(by omega);have bU:¬Q.heap.size=wr.heap.size:=(by omega);have bo:Hid (Below wr wr ((Q.alloc (.cells #[N.k,N.m,N.u,N.g,N.s,N.l] 39)).alloc (.cells #[.int .i64 ((x:Int)+1)] 3))):=(Below.step aa.o (y.alloc y.size (.cells #[N.k,N.m,N.u,N.g,N.s,N.l] 39))).alloc (by have:=aE;simp;omega) _;clear y;cases aj:P.contains ((x:Int)+1) with
    | true=>
     rw[aj]at al C;clear aj;have A:Hid (qp s j (J.take (t+1))=P):=(by show _=_;rw[C.o];rfl);go_wp2_with fail
     refine al.o.mono ?_;rintro e w6 ⟨rfl,rfl⟩;go_wp2;go_roundw;case rel=>exact⟨t+1,by omega,by go_num,by show World.ownsRow _ _ _ _ _ _ _;rw[A.o,D.o];exact z.o.1,z.o.2.1,z.o.2.2⟩
     case measure=>simp[intOf];omega
    | false=>
     rw[aj]at al C;clear aj;have A:Hid (qp s j (J.take (t+1))=P++[(x:Int)+1]):=(by show _=_;rw[C.o];rfl);go_wp2_with fail
     refine al.o.mono ?_;rintro e w6 ⟨rfl,rfl⟩;have br:Hid (w.heap.size<=Q.heap.size):=zr ai.o.size (nU aE);have aL:(ints P)++[Value.int .i64 ((x:Int)+1)]=ints (P++[(x:Int)+1]):=(by simp[ints]);have bq:=Lib.hid aL;have bt:Hid (((Q.alloc (.cells #[N.k,N.m,N.u,N.g,N.s,N.l] 39)).alloc (.cells #[.int .i64 ((x:Int)+1)] 3)).heap[Q.heap.size+1]?=some (.cells #[.int .i64 ((x:Int)+1)] 3)):=vg _ _ _;have b1:=Lib.hid (th z.o.1 (zB.alloc zL (.cells #[.int .i64 ((x:Int)+1)] 3)));have K:=Lib.hid (E.o ((Q.alloc (.cells #[N.k,N.m,N.u,N.g,N.s,N.l] 39)).alloc (.cells #[.int .i64 ((x:Int)+1)] 3)) bo.o);clear aL;go_wp2_with (at_builtin;refine yH _ rfl _ _ 49 rfl w.heap.size 3 i0 (.int .i64 0) 1 8 lk b0.o bb.o aX.o bh.o rfl (by decide) _ _ _ rfl b1.o ⟨Q.heap.size+1,0,none⟩ 1 1 [.int .i64 ((x:Int)+1)] rfl rfl (xU (cs:=#[.int .i64 ((x:Int)+1)]) (t:=3) (fr:=(0,0)) bt.o) (by simp[Value.oneCell']) (by unfold maxLen;omega) (by omega) (by have:=br.o;simp;omega) ?_;intro v8 w8 ao X a9)
     have aV:Hid (w8.ownsRow w 3 1 v8 (LO+1) (ints (P++[(x:Int)+1]))):=(by show World.ownsRow _ _ _ _ _ _ _;rw[<-bq.o];exact ao);have ay:yK (fun r=>(Value.slice qo LO co).ownBlock=some r) _ w8:=yK.grown X fun r hr=>hr;have aW:=Lib.hid (uV K.o.2.1 fun b hb=>ay.block b (K.o.2.1.lt b hb).2 (fun hc=>by obtain⟨bI,aR⟩:=mI K.o.1 b hc;exact rt K.o.2.1 aR (by decide) b hb rfl));have bj:Hid (Below w w w8):=K.o.2.2.trans (ay.to_below (fun r hr=>(K.o.1.lt r hr).1) K.o.2.2.size);clear ao X a9 ay;go_wp2;go_roundw;case rel=>exact⟨t+1,by omega,by go_num,by show World.ownsRow _ _ _ _ _ _ _;rw[A.o,zl,D.o];exact aV.o,aW.o,bj.o⟩
     case measure=>simp[intOf];omega
   .obtain rfl:t=M:=(by omega);have aZ:Hid (qp s j J=P):=(by show _=_;rw[<-V.o,zv (vM ag.o)]);have aq:=b4.o;rw[aZ.o]at aq;have aO:=Lib.hid aq;clear aq sd;go_wp2;go_roundw;case rel=>exact⟨k+1,f,P,by omega,by omega,by go_num,by rw[D.o];exact am,⟨bv.o,aO.o⟩,by show World.ownsRow _ _ _ _ _ _ _;rw[D.o];exact S.o,ai.o⟩
    case measure=>simp[intOf];omega
