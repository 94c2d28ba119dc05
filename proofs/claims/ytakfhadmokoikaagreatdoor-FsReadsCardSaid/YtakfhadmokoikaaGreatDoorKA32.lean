import Derived.Test.YtakfhadmokoikaaGreatDoorKA31
set_option maxHeartbeats 0
set_option linter.all false
set_option maxRecDepth 100000
namespace Go.Proofs.YtakfhadmokoikaaGreatDoor
open Go.Proofs.Tryz Go.RowKit
variable {B cn g gd gf gn gp gt k:Nat} {E:List Nd} {F F1 T T':Nat->Prop} {a:Addr} {c:Array Value} {f fo:Fo} {fp gv nv rv:Value} {fr:Nat×Nat} {pl:List (Int×Value)} {s:Fs} {t:TypeId} {w w' w0 w1:World}
structure Tx where
 fo:Fo
 rows:List (Int×Int)
 nodes:List Pn
 dirty:List (Int×Value)
 put:List (Int×List Int)
 gone:List Int
 full:Bool
 fake:Int
def pL (fp:Value) (fo:Fo) (rv nv dv pv gv:Value) (full:Bool) (fake:Int) (i:Nat):Value:=
 if i=0 then fp else if i<193 then uO fo ((i-1) / 48) ((i-1)%48) else if i=193 then rv else if i=194 then nv else if i=195 then dv else if i=196 then pv else if i=197 then gv else if i=198 then .bool full else .int .i64 fake
def txR (fp:Value) (fo:Fo) (rv nv dv pv gv:Value) (full:Bool) (fake:Int):Array Value:=Array.ofFn (n:=200) fun i=>pL fp fo rv nv dv pv gv full fake i.val
section
variable (fp : Value) (fo : Fo) (rv nv dv pv gv : Value) (full : Bool) (fake : Int)
theorem qY: (txR fp fo rv nv dv pv gv full fake).size=200:=by simp[txR]
theorem qf (i:Nat) (h:i<200):(txR fp fo rv nv dv pv gv full fake)[i]?=some (pL fp fo rv nv dv pv gv full fake i):=by simp[txR,h]
theorem gQ: ∀j,j<(encF fo).size->(txR fp fo rv nv dv pv gv full fake)[1+j]?=(encF fo)[j]? :=fun j a=>by rw[uh]at a;rw[qf _ _ _ _ _ _ _ _ _ _ (by omega)];have:=sS fo (j / 48) (j%48) (by omega) (by omega);rw[show j / 48*48+j%48=j by omega]at this;rw[this];unfold pL;rw[zb (by omega),ze (by omega),show 1+j-1=j by omega]
theorem iA: ∀j,j<(enc (fo.hs 0)).size->(txR fp fo rv nv dv pv gv full fake)[17+j]?=(enc (fo.hs 0))[j]? :=fun j b=>by rw[tF]at b;have a:=gQ fp fo rv nv dv pv gv full fake (16+j) (by rw[uh];omega);rw[show 1+(16+j)=17+j by omega]at a;rw[a];have:=WB fo 0 (by omega) j (by rw[tF];exact b);simpa using this
def hasF (f:Fo) (s:Nat->Bool):Fo:=⟨f.nd,fun k=>if k=0 then s else f.hs k⟩
def ndF (f:Fo) (k:Nat) (p:Int):Fo:=⟨fun a j=>if a=0/\j=k then p else f.nd a j,f.hs⟩
theorem JG (f:Fo) (s:Nat->Bool) (a j:Nat) (h:a≠0\/j<16):uO (hasF f s) a j=uO f a j:=by
 unfold uO hasF;by_cases b:j<16
 .rw[ze b,ze b]
 .rw[zb b,zb b];rcases h with h|h
  .simp[h]
  .exact yb h b
theorem Ku (s:Nat->Bool):((txR fp fo rv nv dv pv gv full fake).toList.take 17++(enc s).toList++(txR fp fo rv nv dv pv gv full fake).toList.drop (17+(enc s).size)).toArray=txR fp (hasF fo s) rv nv dv pv gv full fake:=by
 apply yV;intro i;have d:(enc s).toList.length=32:=by simpa using tF s
 have a:(txR fp fo rv nv dv pv gv full fake).toList.length=200:=by simpa using qY fp fo rv nv dv pv gv full fake
 have f:∀j,(txR fp fo rv nv dv pv gv full fake).toList[j]?=(txR fp fo rv nv dv pv gv full fake)[j]? :=fun j=>zP;rw[xB,tF];by_cases g:i<17
 .rw[zU,zO (by rw[zi,a];omega),zI,ze g,f,qf _ _ _ _ _ _ _ _ _ _ (by omega),qf _ _ _ _ _ _ _ _ _ _ (by omega)];unfold pL;by_cases b:i=0
  .rw[ze b,ze b]
  .rw[zb b,zb b,ze (by omega),ze (by omega),JG _ _ _ _ (zu (by omega))]
 .by_cases h:i<49
  .rw[zU,zx (by rw[zi,a];omega),zO (by rw[zi,a,d];omega),zi,a,qf _ _ _ _ _ _ _ _ _ _ (by omega),zP,pQ _ _ (by omega)];unfold pL;rw[zb (by omega),ze (by omega)];unfold uO hasF;rw[zb (by omega),show (i-1) / 48=0 by omega,show min 17 200=17 by omega,show (i-1)%48-16=i-17 by omega];rfl
  .rw[zU,zx (by rw[zi,a];omega),zx (by rw[zi,a,d];omega),yo,zi,a,d,f];rw[show 17+32+(i-min 17 200-32)=i by omega];by_cases e:i<200
   .rw[qf _ _ _ _ _ _ _ _ _ _ e,qf _ _ _ _ _ _ _ _ _ _ e];unfold pL;have b:¬i=0:=(by omega);rw[zb b,zb b];by_cases c:i<193
    .rw[ze c,ze c,JG _ _ _ _ (zt (by omega))]
    .rw[zb c,zb c]
   .rw[ya (by rw[qY];omega),ya (by rw[qY];omega)]
theorem Z3 (i:Nat) (_h:193<=i) (u:Value) (c:i<200):(txR fp fo rv nv dv pv gv full fake).setIfInBounds i u=Array.ofFn (n:=200) fun j=>if j.val=i then u else pL fp fo rv nv dv pv gv full fake j.val:=by
 apply yV;intro j;rw[yO,qY];by_cases b:i=j
 .rw[ze b,ze (by omega)];subst b;simp[c]
 .rw[zb b];by_cases a:j<200
  .rw[qf _ _ _ _ _ _ _ _ _ _ a];simp[a,yF b]
  .rw[ya (by rw[qY];omega),ya (by simp;omega)]
end
theorem hV (b:Value) (fo:Fo) (rv c d e gv:Value) (a:Bool) (fake:Int) (u:Value):(txR b fo rv c d e gv a fake).setIfInBounds 197 u=txR b fo rv c d e u a fake:=by
 rw[Z3 _ _ _ _ _ _ _ _ _ 197 (by omega) u (by omega)];unfold txR
 congr 1
 funext j
 unfold pL;by_cases h:j.val=197
 .simp[h]
 .simp[h]
structure TxAt (w:World) (B:Nat) (F:Nat->Prop) (gt:Nat) (fp:Value) (x:Tx) (T:Nat->Prop):Prop where
 ex:∃rv gn cn gd gp gv E pl,
  w.heap[gt]?=some (.cells (txR fp x.fo rv (.slice (some ⟨gn,0,none⟩) 32 cn) (.map (some gd)) (.map (some gp)) gv x.full x.fake) 150) /\
  Out (fun i=>F i\/T i) w (fun w'=>xT w' rv 2 x.rows.length (wT x.rows)) /\
  w.ownsRow B 59 8 (.slice (some ⟨gn,0,none⟩) 32 cn) 32 (uu E)/\tP (fun i=>F i\/T i) w E x.nodes /\
  MapL prog 3 w gd x.dirty /\
  MapL prog 3 w gp pl/\te w B pl x.put/\gd≠gp /\
  w.ownsRow B 3 1 gv x.gone.length (ints x.gone) /\
  T gn/\T gd/\T gp/\(∀b,gv.ownBlock=some b->T b)
 self:T gt
 len:x.nodes.length=32
 fin:∀i,T i->i<w.heap.size
 new:∀i,T i->B<=i
 gone:x.gone.length<=1000
 put:x.put.length<=1000
 dirty:x.dirty.length<=1000
 rows:x.rows.length<=20
 fake:0<=x.fake/\x.fake<=1000000
def vS (B:Nat) (F:Nat->Prop) (gt:Nat) (fp:Value) (x':Tx) (T:Nat->Prop) (w w':World):Prop:=
 ∃T',TxAt w' B F gt fp x' T'/\(∀i,T' i->T i\/w.heap.size<=i)/\yK T w w'/\∀i,T i->T' i
theorem lB {φ:World->Prop} (h:Out (fun i=>F i\/T i) w φ) (d:yK T w w') (e:∀i,T' i->T i\/w.heap.size<=i):Out (fun i=>F i\/T' i) w' φ:=fun c b=>
 h c ((d.mono (F1:=fun i=>F i\/T i) (fun i _ a=>zu a)).trans b fun i a=>by
  rcases a with a|a
  .exact zt (zt a)
  .rcases e i a with a|a
   .exact zt (zu a)
   .exact zu a)
theorem qQ {L:List Pn} (h:tP (fun i=>F i\/T i) w E L) (m:yK T w w') (n:∀i,T' i->T i\/w.heap.size<=i):tP (fun i=>F i\/T' i) w' E L:=
 ⟨h.1,fun i g e=>by obtain⟨b,l,c,f,a,d,j,k⟩:=h.2 i g e;exact⟨b,l,c,f,a,d,j,lB k m n⟩⟩
theorem TxAt.below {x:Tx} (h:TxAt w B F gt fp x T) (O:Below w w w'):TxAt w' B F gt fp x T:=by
 obtain⟨⟨u,J,z,q,o,n,E,C,r,l,G,p,f,j,s,A,K,b,e,d,a⟩,L,M,t,y,v,I,m,k,D⟩:=h;exact⟨⟨u,J,z,q,o,n,E,C,we O r,l.below O,th G O,p.keep (yK.of_below O),f.of_block (O.block _ f.lt),j.of_block (O.block _ j.lt),s.keep (fun g c _ N=>O.block g (xL N)),A,th K O,b,e,d,a⟩,
  L,M,fun i H=>zm (t i H) O.size,y,v,I,m,k,D⟩
theorem vS.below {x:Tx} (h:vS B F gt fp x T w w1) (f:Below w1 w1 w'):vS B F gt fp x T w w':=by obtain⟨a,d,b,e,c⟩:=h;exact⟨a,d.below f,b,e.step (yK.of_below f),c⟩
theorem vS.same {x:Tx} (h:TxAt w B F gt fp x T) (b:Below w w w'):vS B F gt fp x T w w':=⟨T,h.below b,fun _ a=>zt a,yK.of_below b,fun _ a=>a⟩
theorem vS.trans {w2:World} {x y:Tx} (h:vS B F gt fp x T w w1) (k:∀T1,TxAt w1 B F gt fp x T1->vS B F gt fp y T1 w1 w2):vS B F gt fp y T w w2:=by
 obtain⟨T1,j,b,c,g⟩:=h;obtain⟨m,d,e,f,l⟩:=k T1 j;refine⟨m,d,fun i a=>?_,c.trans f b,fun i a=>l i (g i a)⟩;rcases e i a with a|a
 .exact b i a
 .exact zu (zr c.size a)
theorem tG {P:Program} {K:TypeId} {b:Nat} {l:List (Int×Value)} (h:w.heap[g]?=some (.cells c t fr)) (f:MapL P K w b l):g≠b:=by rintro rfl;obtain⟨⟨e,d,a,_⟩,_⟩:=f;rw[h]at a;injection a with a;cases a
structure uP (w:World) (B:Nat) (F T:Nat->Prop) (gt:Nat) (fp:Value) (x:Tx) (rv:Value) (gn cn gd gp:Nat) (gv:Value) (E:List Nd) (pl:List (Int×Value)):Prop where
 row:w.heap[gt]?=some (.cells (txR fp x.fo rv (.slice (some ⟨gn,0,none⟩) 32 cn) (.map (some gd)) (.map (some gp)) gv x.full x.fake) 150)
 rows:Out (fun i=>F i\/T i) w (fun w'=>xT w' rv 2 x.rows.length (wT x.rows))
 own:w.ownsRow B 59 8 (.slice (some ⟨gn,0,none⟩) 32 cn) 32 (uu E)
 nds:tP (fun i=>F i\/T i) w E x.nodes
 dirt:MapL prog 3 w gd x.dirty
 puts:MapL prog 3 w gp pl
 secs:te w B pl x.put
 ne:gd≠gp
 gone:w.ownsRow B 3 1 gv x.gone.length (ints x.gone)
 tn:T gn
 td:T gd
 tp:T gp
 tg:∀b,gv.ownBlock=some b->T b
theorem TxAt.lies {x:Tx} (h:TxAt w B F gt fp x T):∃rv gn cn gd gp gv E pl,uP w B F T gt fp x rv gn cn gd gp gv E pl:=by obtain⟨rv,gn,cn,gd,gp,gv,E,pl,g,e,l,f,j,m,i,k,n,b,d,c,a⟩:=h.ex;exact⟨rv,gn,cn,gd,gp,gv,E,pl,g,e,l,f,j,m,i,k,n,b,d,c,a⟩
theorem uP.block {x:Tx} (h:uP w B F T gt fp x rv gn cn gd gp gv E pl):
 ∃cur,w.heap[gn]?=some (.cells cur 59)/\cur.size=cn*8/\32<=cn/\cn<=maxLen/\cur.toList.take 256=uu E/\B<=gn:=by
 obtain⟨_,⟨b,_⟩|⟨g,c,cur,b,i,e,k,f,j,d⟩⟩:=id h.own
 .cases b
 injection b with a _ l;injection a with a;injection a with a;subst a l;exact⟨cur,e,j,k,f,d,i⟩
theorem uP.below {x:Tx} (h:uP w B F T gt fp x rv gn cn gd gp gv E pl) (b:Below w w w'):uP w' B F T gt fp x rv gn cn gd gp gv E pl:=
 ⟨we b h.row,h.rows.below b,th h.own b,h.nds.keep (yK.of_below b),h.dirt.of_block (b.block _ h.dirt.lt),h.puts.of_block (b.block _ h.puts.lt),h.secs.keep (fun g _c _ a=>b.block g (xL a)),h.ne,th h.gone b,h.tn,h.td,h.tp,h.tg⟩
theorem uP.at {x:Tx} (h:uP w B F T gt fp x rv gn cn gd gp gv E pl) (a:T gt) (b:x.nodes.length=32) (c:∀i,T i->i<w.heap.size) (d:∀i,T i->B<=i)
 (e:x.gone.length<=1000) (b2:x.put.length<=1000) (f:x.dirty.length<=1000) (g:x.rows.length<=20) (j:0<=x.fake/\x.fake<=1000000):TxAt w B F gt fp x T:=
 ⟨⟨rv,gn,cn,gd,gp,gv,E,pl,h.row,h.rows,h.own,h.nds,h.dirt,h.puts,h.secs,h.ne,h.gone,h.tn,h.td,h.tp,h.tg⟩,a,b,c,d,e,b2,f,g,j⟩
theorem vS.old {x y:Tx} (h:vS w0 F gt fp x T w w') (f:Below w0 w0 w) (g:TxAt w w0 F gt fp y T):Below w0 w0 w':=by obtain⟨e,d,b,a,c⟩:=h;exact f.trans (a.to_below g.new f.size)
theorem TxAt.outer {F':Nat->Prop} {x:Tx} (h:TxAt w B F gt fp x T) (e:∀i,i<w.heap.size->F' i->F i):TxAt w B F' gt fp x T:=by obtain⟨rv,gn,cn,gd,gp,gv,E,pl,a⟩:=h.lies;have b:∀i,i<w.heap.size->(F' i\/T i)->(F i\/T i):=fun i c d=>d.imp (e i c) id;exact uP.at (rv:=rv) (gn:=gn) (cn:=cn) (gd:=gd) (gp:=gp) (gv:=gv) (E:=E) (pl:=pl) ⟨a.row,a.rows.grow b,a.own,a.nds.grow b,a.dirt,a.puts,a.secs,a.ne,a.gone,a.tn,a.td,a.tp,a.tg⟩ h.self h.len h.fin h.new h.gone h.put h.dirty h.rows h.fake
theorem TxAt.grow {x:Tx} (h:TxAt w B F gt fp x T) (c:Below w w w') (g:Nat) (d:w.heap.size<=g):TxAt w' B (fun i=>F i\/i=g) gt fp x T:=
 (h.outer (F':=fun i=>F i\/i=g) (fun i b a=>by
  rcases a with a|a
  .exact a
  .omega)).below c
theorem TxAt.local {x:Tx} (h:TxAt w B F gt fp x T) (u:F g) (r:¬T g) (v:w.heap[g]?=some (.cells c t)) (y:t≠5) (s:yK (fun i=>i=g) w w'):TxAt w' B F gt fp x T:=by
 obtain⟨rv,gn,cn,gd,gp,gv,E,pl,a⟩:=h.lies;have e:∀b,b<w.heap.size->b≠g->w'.heap[b]?=w.heap[b]? :=fun b n m=>s.block b n m;have k:∀b,T b->b≠g:=fun b e p=>r (p▸e);have f:yK (fun i=>F i\/T i) w w':=s.mono fun i _ l=>zt (l▸u);refine uP.at (rv:=rv) (gn:=gn) (cn:=cn) (gd:=gd) (gp:=gp) (gv:=gv) (E:=E) (pl:=pl) ⟨(e gt (xL a.row) (k gt h.self)).trans a.row,a.rows.keep f,?_,a.nds.keep f,?_,?_,?_,a.ne,?_,a.tn,a.td,a.tp,a.tg⟩ h.self h.len (fun i l=>zm (h.fin i l) s.size) h.new h.gone h.put h.dirty h.rows h.fake
 .exact uV a.own fun b d=>e b (a.own.lt b d).2 (by injection d with d;rw[<-d];exact k gn a.tn)
 .exact a.dirt.of_block (e gd a.dirt.lt (k gd a.td))
 .exact a.puts.of_block (e gp a.puts.lt (k gp a.tp))
 .exact a.secs.keep fun o q _ j=>e o (xL j) (tj j v (yF y))
 .exact uV a.gone fun b d=>e b (a.gone.lt b d).2 (k b (a.tg b d))
section
variable {w : World} {gt : Nat} {fp : Value} {fo : Fo} {rv nv dv pv gv : Value} {full : Bool} {fake : Int} {t : TypeId} {fr : Nat×Nat}
theorem sZ (h:w.heap[gt]?=some (.cells (txR fp fo rv nv dv pv gv full fake) t fr)):
 w.cell? (gt,0)=some fp/\w.cell? (gt,193)=some rv/\w.cell? (gt,194)=some nv/\w.cell? (gt,195)=some dv/\w.cell? (gt,196)=some pv/\w.cell? (gt,197)=some gv/\w.cell? (gt,198)=some (.bool full)/\w.cell? (gt,199)=some (.int .i64 fake):=
 have c:=fun i (a:i<200)=>(xR _ _ i _ _ _ h).trans (qf fp fo rv nv dv pv gv full fake i a)
 ⟨c 0 (by omega),c 193 (by omega),c 194 (by omega),c 195 (by omega),c 196 (by omega),c 197 (by omega),c 198 (by omega),c 199 (by omega)⟩
end
def jb (G:Nat->Prop) (X:Pn) (w':World) (q:Option Addr) (n c:Nat):Prop:=Out G w' (fun w2=>vQ w2 (q,n,c) X.P)
theorem mp {x:Tx} (h:TxAt w B F gt fp x T) (i:Nat) (hi:i<32) (X:Pn) (hX:x.nodes[i]?=some X):
 Calls prog 32 #[(gt,()),.int .i64 ((i:Int)+1)] w
  (fun e w'=>∃q n c,e=.returned (.agg #[X.k,X.m,X.u,X.g,X.s,X.l,X.up,.slice q n c])/\jb (fun i=>F i\/T i) X w' q n c/\Below w w w'):=by
 obtain⟨⟨rv,gn,cn,gd,gp,gv,E,pl,R,h2,W,O,h5,h6,h7,h8,h9,K,S,N,D⟩,a1,a2,a3,a4,a5,a6,a7,a8,a9⟩:=h;obtain⟨_,_,ae,_⟩:=sZ R;have t:E.length=32:=by rw[O.1];exact a2
 have a:xT w (.slice (some ⟨gn,0,none⟩) 32 cn) 8 E.length (uu E):=by rw[t];exact xT.of_owns W
 obtain⟨p2,ap,A,V⟩:=jC a;rw[t]at A V;injection A with j _ p;subst j p;obtain⟨g,o,f,hg,hc⟩:=V.o (by omega);injection f with f;injection f with j p;subst j p;have z:i<E.length:=by omega
 have b:i<x.nodes.length:=by omega
 obtain⟨G,j,p,U,P,M,L,I⟩:=mG hc i z;have d:=O.2 i z b;have C:x.nodes[i]=X:=by rw[zf b]at hX;injection hX
 rw[C]at d;generalize E[i]=y at G j p U P M L I d;obtain⟨yk,ym,yu,yg,ys,yl,aw,H,Q,J⟩:=y;obtain⟨f0,f1,Y,f3,Z,f5,f6,r⟩:=d;dsimp only at G j p U P M L I f0 f1 Y f3 Z f5 f6;subst f0 f1 Y f3 Z f5 f6;have HI:=Lib.hid r;have ad:gt<w.heap.size:=xL R;have ab:¬gt=w.heap.size:=by omega
 have aq:¬gn=w.heap.size:=by omega
 have i1:IntKind.i64.wrap ((i:Int)+1-1)=(i:Int):=by rw[zQ _ (by omega)];omega
 simp only[yL]at G j p U P M L I;clear R h2 W O h5 h6 h7 h9 K S N D V hc r a hX C b a1 a2 a3 a4 a5 a6 a7 a8 a9;go_enter func32,ntmps32;go_wp2;obtain⟨z0,z1,z2,z3,z4,z5,z6,z7⟩:=uI (zT w (.cells #[X.k,X.m,X.u,X.g,X.s,X.l,X.up,(H,Q,J)] 59));have HB:Hid (Below w w (w.alloc (.cells #[X.k,X.m,X.u,X.g,X.s,X.l,X.up,(H,Q,J)] 59))):=zB.alloc zL _;exact yS (v:=.agg #[X.k,X.m,X.u,X.g,X.s,X.l,X.up,(H,Q,J)]) (by simp[results,results32,go_sem,z0,z1,z2,z3,z4,z5,z6,z7]) rfl ⟨_,_,_,rfl,HI.o.below HB.o,HB.o⟩
theorem Pt (E:List Nd) (i:Nat) (h:i<E.length) (e:Nd):((uu E).toArray.toList.take (i*8)++(nd8 e).toArray.toList++(uu E).toArray.toList.drop (i*8+(nd8 e).toArray.size)).toArray=(uu (E.set i e)).toArray:=by
 congr 1
 have d:(nd8 e).toArray.size=8:=rfl;rw[d,xV,xV]
 induction E generalizing i with
 | nil=>simp at h
 | cons y E f=>
  have b:uu (y::E)=nd8 y++uu E:=rfl;have a:(nd8 y).length=8:=rfl;cases i with
  | zero=>
   rw[b,yj];show (nd8 y++uu E).take 0++nd8 e++(nd8 y++uu E).drop 8=nd8 e++uu E;rw[xE,xj,uj (by rw[a];exact zL),show (nd8 y).drop 8=[] from rfl,xj]
  | succ i=>
   have:=f i (by simpa using h);rw[b,yh,show uu (y::E.set i e)=nd8 y++uu (E.set i e) from rfl,<-this];rw[show (i+1)*8=8+i*8 by omega,show 8+i*8+8=8+(i*8+8) by omega];rw[mP,List.drop_append,a];have c:(nd8 y).take (8+i*8)=nd8 y:=zv (by rw[a];omega);have g:(nd8 y).drop (8+(i*8+8))=[]:=vm (by rw[a];omega);rw[c,g,xj,show 8+i*8-8=i*8 by omega,show 8+(i*8+8)-8=i*8+8 by omega,zU,zU,zU]
theorem Mi {α:Type} (l d:List α) (a m:Nat) (h:a+d.length<=m) (c:m<=l.length):(l.take a++d++l.drop (a+d.length)).take m=(l.take m).take a++d++(l.take m).drop (a+d.length):=by
 have b:(l.take m).take a=l.take a:=by rw[vf,vX (by omega)]
 rw[b,zU,mP,mP,zi,vX (by omega)];rw[zv (by rw[zi];omega),zv (l:=d) (by omega),zU]
 congr 2
 rw[List.drop_take]
 congr 1
 omega
theorem lI {x:Tx} (h:TxAt w B F gt fp x T) (i:Nat) (hi:i<32) (X:Pn) (q:Option Addr) (n c:Nat) (hX:jb (fun i=>F i\/T i) X w q n c) (hd:x.dirty.length<900):
 Calls prog 37 #[(gt,()),.int .i64 ((i:Int)+1),.agg #[X.k,X.m,X.u,X.g,X.s,X.l,X.up,(q,n,c)]] w
  (fun e w'=>e=.returned (.tuple #[])/\vS B F gt fp {x with nodes:=x.nodes.set i X,dirty:=putZ x.dirty ((i:Int)+1) (.bool true)} T w w'):=by
 have H:=Lib.hid h;obtain⟨⟨rv,gn,cn,gd,gp,gv,E,pl,j,z,S,h4,h5,h6,h7,h8,h9,ac,ak,ah,U⟩,a1,a2,a3,a4,a5,a6,a7,a8,a9⟩:=h;have an:Hid (uP w B F T gt fp x rv gn cn gd gp gv E pl):=⟨j,z,S,h4,h5,h6,h7,h8,h9,ac,ak,ah,U⟩;obtain⟨c0,aG,ae,aJ,aL,aO,aM,aI⟩:=sZ j;have aa:E.length=32:=by rw[h4.1];exact a2
 have ad:gt<w.heap.size:=xL j;have aH:¬gt=w.heap.size:=by omega
 have i1:IntKind.i64.wrap ((i:Int)+1-1)=(i:Int):=by rw[zQ _ (by omega)];omega
 obtain⟨_,⟨O,_⟩|⟨bm,bg,f,O,bl,hh,K,al,Y,P⟩⟩:=id S
 .cases O
 injection O with Z _ e2;injection Z with Z;injection Z with Z;subst Z e2;have HN:=Lib.hid hh;have aq:Hid (f.size=cn*8/\32<=cn):=⟨Y,K⟩;have a0:Hid (gt≠gn):=tj j hh (by decide);have ag:=Lib.hid j;have C:=Lib.hid h5;clear j z S h4 h5 h6 h7 h9 ac ak ah U P Y al K a1 a2 a3 a4 a5 a6 a7 a8 a9;go_enter func37,ntmps37;go_wp2_with fail
 have ab:=zT w (.cells #[X.k,X.m,X.u,X.g,X.s,X.l,X.up,(q,n,c)] 59);have aD:=Lib.hid ab;have ai:Hid (Below w w (w.alloc (.cells #[X.k,X.m,X.u,X.g,X.s,X.l,X.up,(q,n,c)] 59))):=zB.alloc zL _;have L:=(ai.o.cell (p:=⟨gt,194,none⟩) ad).trans ae;clear ab;generalize w.alloc (.cells #[X.k,X.m,X.u,X.g,X.s,X.l,X.up,(q,n,c)] 59)=w1 at *
 have am:=cell_regrown L;refine fF 8 (by kernel_rfl) (by kernel_rfl) ?_;simp only[wV,xE,wX,wz]
 repeat (first
  | go_big_quiet_skip
  | (refine IQ rfl 59 (.tmp 5) rfl w rfl 59 #[X.k,X.m,X.u,X.g,X.s,X.l,X.up,(q,n,c)] (0,0) _ (fun _ hw=>fU hw aD.o) underlying59 rfl ma ?_;simp only[Act.put,zM,yj,yh])
  | (go_big_quiet_want;go_big_quiet_op;go_big_quiet_on))
 refine vq ?_;intro J ao;have t:=Below.step ai.o (sL ao);obtain⟨e,He⟩:∃e:Nd,Hid (e=⟨X.k,X.m,X.u,X.g,X.s,X.l,X.up,q,n,c⟩):=⟨_,rfl⟩;obtain⟨d,N⟩:∃R:Array Value,Hid ((f.toList.take (i*8)++(#[X.k,X.m,X.u,X.g,X.s,X.l,X.up,(q,n,c)]:Array Value).toList++f.toList.drop (i*8+8)).toArray=R):=⟨_,rfl⟩;have M:Hid (J.heap[gn]?=some (.cells f 59)):=we t HN.o;have aA:Hid (f.size=cn*8/\32<=cn):=aq.o;have aj:gt≠gn:=a0.o;have aE:=Lib.hid (we t ag.o);have aQ:(J.setRow gn d).cell? (gt,195)=some (.map (some gd)):=(vi (yZ J gn gt d aj)).trans (sZ aE.o).2.2.2.1;have V:Hid (MapL prog 3 (J.setRow gn d) gd x.dirty):=(C.o.of_block (t.block _ C.o.lt)).of_block (yZ J gn gd d (fun v=>by have j:=C.o.of_block (t.block _ C.o.lt);obtain⟨⟨es,au,z,_⟩,_⟩:=j;rw[v,M.o]at z;injection z with z;cases z));clear am L;go_wp2_with (first
  | (refine jr rfl 59 (.tmp 13) (.tmp 12) rfl gn (i*8) #[X.k,X.m,X.u,X.g,X.s,X.l,X.up,(q,n,c)] rfl rfl 59 f d M.o ma (by have:=aA.o;show i*8+8<=f.size;omega) (WQ _ _ _ _ _ _ _ _ rfl) N.o ?_)
  | (at_mapUpdate;refine K1 _ rfl _ _ _ _ rfl 3 4 intT pw gd x.dirty ((i:Int)+1) (.bool true) rfl V.o (by omega) rfl rfl (by unfold InZ;omega) ?_;intro w4 ar Q))
 go_end0
 have G:=H.o;have a:uP w B F T gt fp x rv gn cn gd gp gv E pl:=an.o;have av:yK T w J:=yK.of_below t;have aB:yK T w (J.setRow gn d):=av.step (yK.setRow a.tn _);have A:yK T w w4:=aB.step (yK.grown Q.grown (fun r hr=>by injection hr with hr;rw[<-hr];exact a.td));have D:∀b,b<w.heap.size->b≠gn->b≠gd->w4.heap[b]?=w.heap[b]? :=fun b y j z=>
  (Q.grown.block b (by simp;exact zm y t.size) (by intro v;injection v with v;exact z v)).trans ((yZ J gn b d j).trans (t.block b y))
 have af:w4.heap[gn]?=some (.cells d 59):=by have j:(J.setRow gn d).heap[gn]?=some (.cells d 59):=yi _ _ _ _ _ _ M.o;exact (Q.grown.block gn (xL j) (by intro v;injection v with v;exact tG j V.o v)).trans j
 obtain⟨R,I,q2,q3,q4,q5,q6⟩:=a.block;have aC:R=f:=by rw[HN.o]at I;injection I with I;injection I with I;exact I.symm
 subst aC;have aa:E.length=32:=by rw[a.nds.1];exact G.len
 have W:(nd8 ⟨X.k,X.m,X.u,X.g,X.s,X.l,X.up,q,n,c⟩).length=8:=rfl;have P:d.toList.take 256=uu (E.set i ⟨X.k,X.m,X.u,X.g,X.s,X.l,X.up,q,n,c⟩):=by rw[<-N.o];have j:=Mi R.toList (nd8 ⟨X.k,X.m,X.u,X.g,X.s,X.l,X.up,q,n,c⟩) (i*8) 256 (by rw[W];omega) (by simp only[yp];omega);rw[W]at j;show (R.toList.take (i*8)++nd8 ⟨X.k,X.m,X.u,X.g,X.s,X.l,X.up,q,n,c⟩++R.toList.drop (i*8+8)).take 256=_;rw[j,q5];have z:=Pt E i (by omega) ⟨X.k,X.m,X.u,X.g,X.s,X.l,X.up,q,n,c⟩;have S:=congrArg Array.toList z;rw[xV,xV]at S;exact S
 have ax:d.size=cn*8:=by rw[<-N.o];simp only[us,zl,zi,yx,yp,yz,xP];omega
 refine⟨rfl,T,uP.at (rv:=rv) (gn:=gn) (cn:=cn) (gd:=gd) (gp:=gp) (gv:=gv) (E:=E.set i ⟨X.k,X.m,X.u,X.g,X.s,X.l,X.up,q,n,c⟩) (pl:=pl) ⟨?_,lB a.rows A (fun _ hi=>zt hi),?_,?_,ar,?_,?_,a.ne,?_,a.tn,a.td,a.tp,a.tg⟩ G.self (by simpa using G.len) (fun i hi=>zm (G.fin i hi) A.size) G.new G.gone G.put ?_ G.rows G.fake,fun _ hi=>zt hi,A,fun _ hi=>hi⟩
 .exact (D gt (xL a.row) aj (tG a.row a.dirt)).trans a.row
 .refine⟨by rw[Nq,xG,aa],zu ⟨gn,cn,d,rfl,q6,af,q3,q4,ax,P⟩⟩
 .refine tP.set (qQ a.nds A (fun _ hi=>zt hi)) ⟨rfl,rfl,rfl,rfl,rfl,rfl,rfl,?_⟩ i;exact lB hX A (fun _ hi=>zt hi)
 .exact a.puts.of_block (D gp a.puts.lt (yF (tG I a.puts)) (yF a.ne))
 .exact a.secs.keep fun g cc _ v=>D g (xL v) (tj v I (by decide)) (tG v a.dirt)
 .refine uV a.gone fun b y=>D b (a.gone.lt b y).2 ?_ ?_
  .exact rt a.gone I (by decide) b y
  .obtain⟨_,⟨O,_⟩|⟨g,c1,aX,O,_,ap,_⟩⟩:=id a.gone
   .rw[O]at y;cases y
   .rw[O]at y;injection y with y;rw[<-y];exact tG ap a.dirt
 .exact zr (oS _ _ _) (by omega)
theorem uP.putHas {x:Tx} (h:uP w B F T gt fp x rv gn cn gd gp gv E pl) (t:TxAt w B F gt fp x T) (fo:Fo)
 (u:yK (fun i=>i=gt) w w') (v:w'.heap[gt]?=some (.cells (txR fp fo rv (.slice (some ⟨gn,0,none⟩) 32 cn) (.map (some gd)) (.map (some gp)) gv x.full x.fake) 150)):vS B F gt fp {x with fo:=fo} T w w':=by
 have d:yK T w w':=u.mono fun i _ c=>by rw[c];exact t.self
 have e:∀b,b<w.heap.size->b≠gt->w'.heap[b]?=w.heap[b]? :=fun b k j=>u.block b k j;obtain⟨p,n,s,o,r,q,m⟩:=h.block;refine⟨T,uP.at (x:={x with fo:=fo}) (rv:=rv) (gn:=gn) (cn:=cn) (gd:=gd) (gp:=gp) (gv:=gv) (E:=E) (pl:=pl) ⟨v,lB h.rows d (fun _ c=>zt c),?_,qQ h.nds d (fun _ c=>zt c),?_,?_,?_,h.ne,?_,h.tn,h.td,h.tp,h.tg⟩ t.self t.len (fun i c=>zm (t.fin i c) u.size) t.new t.gone t.put t.dirty t.rows t.fake,fun _ c=>zt c,d,fun _ c=>c⟩
 .exact uV h.own fun b a=>e b (h.own.lt b a).2 (rt h.own h.row (by decide) b a)
 .exact h.dirt.of_block (e gd h.dirt.lt (yF (tG h.row h.dirt)))
 .exact h.puts.of_block (e gp h.puts.lt (yF (tG h.row h.puts)))
 .exact h.secs.keep fun g l _ f=>e g (xL f) (tj f h.row (by decide))
 .exact uV h.gone fun b a=>e b (h.gone.lt b a).2 (rt h.gone h.row (by decide) b a)
def ZK (f:Fo) (k n:Nat):Prop:=37<=n/\n<k/\ry f 4 n=false/\∀m,37<=m->m<n->ry f 4 m=true
def useF (f:Fo) (n:Nat):Fo:=hasF f (ins (f.hs 0) n)
theorem Sc {x:Tx} (h:TxAt w B F gt (gf,()) x T) (hf:FsAt w gf s F1 a) (n:Nat) (hn:ZK x.fo s.k n):
 Calls prog 124 #[(gt,())] w
  (fun e w'=>e=.returned n/\vS B F gt (gf,()) {x with fo:=useF x.fo n} T w w'):=by
 have H:=Lib.hid h;obtain⟨rv,gn,cn,gd,gp,gv,E,pl,I⟩:=h.lies;have HL:=Lib.hid I;obtain⟨⟨gl,aq,ap,bt,bh,E',tl,FD,f1,f2,_⟩,_,_,_,_,k0,Z,_⟩:=hf;have HK:Hid (64<=s.k/\s.k<=256):=⟨k0,Z⟩;obtain⟨c0,_⟩:=sZ I.row;have d0:w.cell? (gf,0)=some (.pointer (some a)):=(xR _ _ 0 _ _ _ f1).trans (lN _ _ _ _ _ _ _ 0 (by omega));have HD:=Lib.hid f2;have Y:=cell_regrown c0;have O:=cell_regrown d0;obtain⟨A,N⟩:=zA (encF x.fo);have P:Hid (A.size=192):=by rw[N.o];exact uh _
 obtain⟨S,HS⟩:=zA (enc (ry x.fo 4));have L:Hid (∀W:World,Calls prog 159 #[.agg A] W fun e w'=>e=.returned (.agg S)/\Below W W w'):=fun W=>by rw[N.o,HS.o];exact XD x.fo W
 have U:Hid (∀W:World,Calls prog 160 #[.agg S,(37:Int),s.k] W fun e w'=>e=.returned (.tuple #[n,()])/\Below W W w'):=fun W=>by rw[HS.o];have:=HK.o;exact NT (ry x.fo 4) 37 s.k n W (by omega) (by omega) (by omega) (by omega) (by have:=hn.1;omega) (by have:=hn.2.1;omega) (by have:=hn.2.1;omega) hn.2.2.1 (fun m h1 h2=>hn.2.2.2 m (by omega) h2)
 obtain⟨R,v⟩:=zD (txR (gf,()) x.fo rv (.slice (some ⟨gn,0,none⟩) 32 cn) (.map (some gd)) (.map (some gp)) gv x.full x.fake);have V:Hid (R.size=200):=by show _=_;rw[<-v.o];exact qY _ _ _ _ _ _ _ _ _
 have J:Hid (∀j,j<A.size->R[1+j]?=A[j]?):=by rw[<-v.o,N.o];exact gQ _ _ _ _ _ _ _ _ _
 obtain⟨t,q⟩:=zA (enc (x.fo.hs 0));have y:Hid (t.size=32):=by rw[q.o];exact tF _
 have Q:Hid (∀j,j<t.size->R[17+j]?=t[j]?):=by rw[<-v.o,q.o];exact iA _ _ _ _ _ _ _ _ _
 obtain⟨r,g⟩:=zA (enc (ins (x.fo.hs 0) n));have p:Hid (r.size=32):=by rw[g.o];exact tF _
 have u:Hid (r.all (·.oneCell')=true):=by rw[g.o];exact lO _
 have M:Hid (∀W:World,Calls prog 89 #[.agg t,n] W fun e w'=>e=.returned (.agg r)/\Below W W w'):=fun W=>by have:=iz (x.fo.hs 0) (n:Int) W (by omega) (by have:=hn.2.1;have:=HK.o;omega);rw[yy]at this;rw[q.o,g.o];exact this
 obtain⟨R1,C⟩:=zD (txR (gf,()) (useF x.fo n) rv (.slice (some ⟨gn,0,none⟩) 32 cn) (.map (some gd)) (.map (some gp)) gv x.full x.fake);have K:Hid ((R.toList.take 17++r.toList++R.toList.drop (17+r.size)).toArray=R1):=by rw[<-v.o,g.o,<-C.o];exact Ku _ _ _ _ _ _ _ _ _ _
 have d:=I.row;rw[v.o]at d;have l:=Lib.hid d;clear h I f1 f2 k0 Z hn c0 d0 d;go_enter func124,ntmps124;go_wp2_with fail
 refine wp_region_quiet_below (by kernel_rfl) (by kernel_rfl) ?_
 repeat (first
  | go_big_quiet_skip
  | (refine Vc rfl 95 (.tmp 8) rfl gt 1 rfl 150 R A (0,0) _ (fun _ z=>fU z l.o) J.o forT rfl (by rw[P.o];exact forI) ?_;simp only[Act.put,zM,yj,yh])
  | (refine qD 159 #[.tmp 9] #[95] rfl rfl (fun _ _=>by kernel_rfl) #[.agg A] (by kernel_rfl) (.agg S) (fun _ _=>qk) (fun w' _=>L.o w') ?_;simp only[Act.put,zM,yj,yh])
  | (refine qD 48 #[.tmp 17] #[27] rfl rfl (fun _ _=>by kernel_rfl) #[.pointer (some a)] (by kernel_rfl) (.int .i64 (s.k:Int)) (fun _ _=>qk) (fun w' z=>(mC (HD.o.below (sL z))).mono fun e w2 ⟨he,b⟩=>⟨he,b▸zB⟩) ?_;simp only[Act.put,zM,yj,yh])
  | (refine qD 160 #[.tmp 10,.const (.int .i64 37),.tmp 18] #[91,3,3] rfl rfl (fun _ _=>by kernel_rfl) #[.agg S,(37:Int),s.k] (by kernel_rfl) (.tuple #[n,()]) (fun _ _=>qk) (fun w' _=>U.o w') ?_;simp only[Act.put,zM,yj,yh])
  | (go_big_quiet_want;go_big_quiet_op;go_big_quiet_on))
 refine vq ?_;intro w1 G;have D:=Lib.hid (sL G);have f:=Lib.hid (we D.o l.o);clear Y O G;go_wp2_with fail
 refine fF 13 (by kernel_rfl) (by kernel_rfl) ?_;simp only[wV,xE,wX,wz]
 repeat (first
  | go_big_quiet_skip
  | (refine Vc rfl 91 (.tmp 43) rfl gt 17 rfl 150 R t (0,0) _ (fun _ z=>fU z f.o) Q.o setT rfl (by rw[y.o];exact setI) ?_;simp only[Act.put,zM,yj,yh])
  | (refine qD 89 #[.tmp 44,.tmp 45] #[91,3] rfl rfl (fun _ _=>by kernel_rfl) #[.agg t,n] (by kernel_rfl) (.agg r) (fun _ _=>qk) (fun w' _=>M.o w') ?_;simp only[Act.put,zM,yj,yh])
  | (go_big_quiet_want;go_big_quiet_op;go_big_quiet_on))
 refine vq ?_;intro w2 b;have X:=Lib.hid (Below.step D.o (sL b));have c:=Lib.hid (we (sL b) f.o);clear b;go_wp2_with (refine jr rfl 91 (.tmp 50) (.tmp 46) rfl gt 17 r rfl rfl 150 R R1 c.o (by rw[p.o];exact setI) (by rw[p.o,V.o];omega) u.o K.o ?_)
 go_ret;refine⟨rfl,HL.o.putHas H.o (useF x.fo n) ((yK.of_below X.o).step (yK.setRow (F:=fun i=>i=gt) rfl _)) ?_⟩;rw[C.o];exact yi _ _ _ _ _ _ c.o
theorem mz: prog.underlying 98=some (.map 3 23):=by kernel_rfl
theorem u8sZ: ∀w,(zeroValue 23).run prog w=.ok (.slice none 0 0) w:=(uW (P:=prog) (t:=23) (v:=.slice none 0 0) (n:=1) (by kernel_rfl)).1
def secE (s:Fs) (n:Nat):List Int:=(getZ s.todo (n:Int)).getD (sec s.dk.N n)
theorem nu {d lg:Value} {tv hv:Value} (h:w.heap[gf]?=some (.cells (fsR d lg fo rv nv tv hv) t fr)):
 w.cell? (gf,0)=some d/\w.cell? (gf,1)=some lg/\w.cell? (gf,194)=some rv/\w.cell? (gf,195)=some nv/\w.cell? (gf,196)=some tv/\w.cell? (gf,197)=some hv:=
 have c:=fun i (a:i<198)=>(xR _ _ i _ _ _ h).trans (lN d lg fo rv nv tv hv i a)
 ⟨c 0 (by omega),c 1 (by omega),c 194 (by omega),c 195 (by omega),c 196 (by omega),c 197 (by omega)⟩
theorem Kf (h:FsAt w gf s F a) (n:Nat) (hn:n<s.k):
 Calls prog 123 #[(gf,()),n] w (Ws (secE s n) w):=by
 obtain⟨⟨Z,rv,nv,bt,bh,E,tl,FD,u,t,Q,I,K,T,J,P,U,d,f,m,g,i,p,q,j⟩,V,W,L,O,M,R,H⟩:=h;obtain⟨c0,_,_,_,S,_⟩:=nu u;have b:=d.look_ok (k:=(n:Int)) intT mz (u8sZ w) (by unfold InZ;omega);have y:=Lib.hid (gT t n hn);rcases f.sec.get (k:=(n:Int)) with⟨r,l⟩|⟨v,D,r,l,C⟩
 .unfold hasZ at b;rw[r]at b;have B:Hid (secE s n=sec s.dk.N n):=by show _=_;unfold secE;rw[l];rfl
  rw[show ((none:Option Value).getD (.slice none 0 0))=.slice none 0 0 from rfl,show ((none:Option Value).isSome)=false from rfl]at b;clear u t Q I K T J P U d f m g i p q j V W L O M R H r l;go_enter func123,ntmps123;go_wp2_with fail
  refine y.o.mono ?_;rintro e X ⟨x,rfl,c⟩;have A:=Lib.hid c;clear c;go_wp2;go_ret2;rw[B.o];exact⟨x,rfl,A.o⟩
 .unfold hasZ at b;rw[r]at b;have B:Hid (secE s n=D):=by show _=_;unfold secE;rw[l];rfl
  rw[show ((some v).getD (.slice none 0 0))=v from rfl,show ((some v).isSome)=true from rfl]at b;have G:D.length=64:=by obtain⟨_,_,_,_,Y,_⟩:=C;exact Y
  have z:=Lib.hid (jB v D w C.at (by omega) (by omega));clear u t Q I K T J P U d f m g i p q j V W L O M R H r l C;go_enter func123,ntmps123;go_wp2_with fail
  refine z.o.mono ?_;rintro e X ⟨x,rfl,c⟩;have A:=Lib.hid c;clear c;go_wp2;go_ret2;rw[B.o];exact⟨x,rfl,A.o⟩
def secT (x:Tx) (s:Fs) (n:Nat):List Int:=(getZ x.put (n:Int)).getD (secE s n)
def sB (x:Tx) (s:Fs) (P:List Int) (k:Nat):List Int:=if P.getD k 0=0 then List.replicate 64 0 else secT x s (P.getD k 0).toNat
theorem lT.bump {D:List Int} {e:Ending} (l:Below w w w1) (h:lT D w1 e w'):lT D w e w':=by obtain⟨v,d,g,b,a,i,c,k,f,j⟩:=h;exact⟨v,d,g,b,a,i,⟨zr l.size c.1,c.2⟩,k,f,Below.step l j⟩
theorem uP.putMap {x:Tx} (h:uP w B F T gt fp x rv gn cn gd gp gv E pl) (A:TxAt w B F gt fp x T) (p:Int) (v:Value) (D:List Int)
 (C:su w B v D) (G:yK (fun i=>i=gp) w w') (H:MapL prog 3 w' gp (putZ pl p v)) (I:x.put.length<1000):TxAt w' B F gt fp {x with put:=putZ x.put p D} T:=by
 have e:yK T w w':=G.mono fun i _ c=>by rw[c];exact h.tp
 have d:∀b,b<w.heap.size->b≠gp->w'.heap[b]?=w.heap[b]? :=fun b o k=>G.block b o k;obtain⟨s,n,z,r,y,t,q⟩:=h.block;refine uP.at (x:={x with put:=putZ x.put p D}) (rv:=rv) (gn:=gn) (cn:=cn) (gd:=gd) (gp:=gp) (gv:=gv) (E:=E) (pl:=putZ pl p v) ⟨(d gt (xL h.row) (tG h.row h.puts)).trans h.row,lB h.rows e (fun _ c=>zt c),?_,qQ h.nds e (fun _ c=>zt c),?_,H,?_,h.ne,?_,h.tn,h.td,h.tp,h.tg⟩ A.self A.len (fun i c=>zm (A.fin i c) G.size) A.new A.gone (zr (oS _ _ _) I) A.dirty A.rows A.fake
 .exact uV h.own fun b a=>d b (h.own.lt b a).2 (by injection a with a;rw[<-a];exact tG n h.puts)
 .exact h.dirt.of_block (d gd h.dirt.lt h.ne)
 .exact te.put (Zt C fun g l _ f=>d g (xL f) (tG f h.puts)) (h.secs.keep fun g l _ f=>d g (xL f) (tG f h.puts))
 .refine uV h.gone fun b a=>d b (h.gone.lt b a).2 ?_;obtain⟨_,⟨C,_⟩|⟨g,u,m,C,_,j,_⟩⟩:=id h.gone
  .rw[C]at a;cases a
  .rw[C]at a;injection a with a;rw[<-a];exact tG j h.puts
theorem Z4 {R:Array Value} {dv pv:Value} {full:Bool} {fake:Int} (b:R.size=200) (h:∀i,i<200->R[i]?=some (pL fp fo rv nv dv pv gv full fake i)):R=txR fp fo rv nv dv pv gv full fake:=by
 apply yV;intro i;by_cases a:i<200
 .rw[h i a,qf _ _ _ _ _ _ _ _ _ _ a]
 .rw[ya (by omega),ya (by rw[qY];omega)]
theorem Sh (j:Value) (fo:Fo) (rv k l m gv:Value) (g b:Bool) (h f2:Int):((txR j fo rv k l m gv g h).setIfInBounds 198 (.bool b)).setIfInBounds 199 (.int .i64 f2)=txR j fo rv k l m gv b f2:=by
 refine Z4 (by simp[qY]) fun i d=>?_;rw[yO,yO,wb,qY,qf _ _ _ _ _ _ _ _ _ _ d];unfold pL;by_cases c:199=i
 .subst c;rfl
 .rw[zb c];by_cases a:198=i
  .subst a;rfl
  .rw[zb a];by_cases f:i<198
   .have e:¬i=198:=(by omega);simp only[e,ua]
    repeat (first|rfl|(split;rfl))
    omega
   .omega
def jg (f:Fo) (k:Nat):Option Nat:=(List.range k).find? fun n=>decide (37<=n)&&!ry f 4 n
theorem V4 {n:Nat} (h:jg f k=some n):ZK f k n:=by unfold jg at h;rw[List.find?_range_eq_some]at h;obtain⟨a,c,e⟩:=h;simp only[yM,xo,ub]at a;refine⟨a.1,yT.1 c,a.2,fun m d b=>?_⟩;have:=e m b;simpa[d]using this
theorem My (h:jg f k=none) (m:Nat) (a:37<=m) (b:m<k):ry f 4 m=true:=by unfold jg at h;rw[List.find?_eq_none]at h;have:=h m (yT.2 b);simpa[a]using this
structure Ow where
 fo:Fo
 fl:Bool
 fk:Int
def qz (o:Ow) (k:Nat):Int×Ow:=match jg o.fo k with
 | some n=>((n:Int),{o with fo:=useF o.fo n})
 | none=>(o.fk+1,{o with fl:=true,fk:=o.fk+1})
def ownU (o:Ow) (k:Nat) (p:Int):Int×Ow:=
 if p=0 then qz o k else if p<256/\uT o.fo 4 p.toNat=true then qz {o with fo:=hasF o.fo (del (o.fo.hs 0) p.toNat)} k else (p,o)
def Tx.ow (x:Tx):Ow:=⟨x.fo,x.full,x.fake⟩
def Tx.wow (x:Tx) (o:Ow):Tx:={x with fo:=o.fo,full:=o.fl,fake:=o.fk}
theorem uP.withFull {x:Tx} (h:uP w B F T gt fp x rv gn cn gd gp gv E pl) (m:TxAt w B F gt fp x T) {b:Bool} {f2:Int}
 (n:yK (fun i=>i=gt) w w') (o:w'.heap[gt]?=some (.cells (txR fp x.fo rv (.slice (some ⟨gn,0,none⟩) 32 cn) (.map (some gd)) (.map (some gp)) gv b f2) 150)) (p:0<=f2/\f2<=1000000):vS B F gt fp {x with full:=b,fake:=f2} T w w':=by
 have d:yK T w w':=n.mono fun i _ c=>by rw[c];exact m.self
 have e:∀b,b<w.heap.size->b≠gt->w'.heap[b]?=w.heap[b]? :=fun b k j=>n.block b k j;refine⟨T,uP.at (x:={x with full:=b,fake:=f2}) (rv:=rv) (gn:=gn) (cn:=cn) (gd:=gd) (gp:=gp) (gv:=gv) (E:=E) (pl:=pl) ⟨o,lB h.rows d (fun _ c=>zt c),?_,qQ h.nds d (fun _ c=>zt c),?_,?_,?_,h.ne,?_,h.tn,h.td,h.tp,h.tg⟩ m.self m.len (fun i c=>zm (m.fin i c) n.size) m.new m.gone m.put m.dirty m.rows p,fun _ c=>zt c,d,fun _ c=>c⟩
 .exact uV h.own fun b a=>e b (h.own.lt b a).2 (rt h.own h.row (by decide) b a)
 .exact h.dirt.of_block (e gd h.dirt.lt (yF (tG h.row h.dirt)))
 .exact h.puts.of_block (e gp h.puts.lt (yF (tG h.row h.puts)))
 .exact h.secs.keep fun g l _ f=>e g (xL f) (tj f h.row (by decide))
 .exact uV h.gone fun b a=>e b (h.gone.lt b a).2 (rt h.gone h.row (by decide) b a)
theorem QB {x:Tx} (h:TxAt w B F gt (gf,()) x T) (hf:FsAt w gf s F1 a) (hn:∀m,37<=m->m<s.k->ry x.fo 4 m=true) (aa:x.fake<1000000):
 Calls prog 124 #[(gt,())] w
  (fun e w'=>e=.returned (.int .i64 (x.fake+1))/\vS B F gt (gf,()) {x with full:=true,fake:=x.fake+1} T w w'):=by
 have H:=Lib.hid h;have u:Hid (0<=x.fake/\x.fake<1000000):=⟨h.fake.1,aa⟩;obtain⟨Y,gn,cn,X,Q,P,E,pl,z⟩:=h.lies;have HL:=Lib.hid z;obtain⟨⟨gl,ai,af,bt,bh,E',tl,FD,U,f2,_⟩,_,_,_,_,V,O,_⟩:=hf;have HK:Hid (64<=s.k/\s.k<=256):=⟨V,O⟩;obtain⟨c0,_⟩:=sZ z.row;have Z:w.cell? (gf,0)=some (.pointer (some a)):=(xR _ _ 0 _ _ _ U).trans (lN _ _ _ _ _ _ _ 0 (by omega));have HD:=Lib.hid f2;have N:=cell_regrown c0;have J:=cell_regrown Z;obtain⟨A,I⟩:=zA (encF x.fo);have L:Hid (A.size=192):=by rw[I.o];exact uh _
 obtain⟨S,HS⟩:=zA (enc (ry x.fo 4));have G:Hid (∀W:World,Calls prog 159 #[.agg A] W fun e w'=>e=.returned (.agg S)/\Below W W w'):=fun W=>by rw[I.o,HS.o];exact XD x.fo W
 have M:Hid (∀W:World,Calls prog 160 #[.agg S,(37:Int),s.k] W fun e w'=>e=.returned (.tuple #[(),(6:Int)])/\Below W W w'):=fun W=>by rw[HS.o];have:=HK.o;exact NU (ry x.fo 4) 37 s.k W (by omega) (by omega) (by omega) (by omega) (fun m h1 h2 _=>hn m (by omega) (by omega))
 obtain⟨R,y⟩:=zD (txR (gf,()) x.fo Y (.slice (some ⟨gn,0,none⟩) 32 cn) (.map (some X)) (.map (some Q)) P x.full x.fake);have C:Hid (∀j,j<A.size->R[1+j]?=A[j]?):=by rw[<-y.o,I.o];exact gQ _ _ _ _ _ _ _ _ _
 have f:=z.row;rw[y.o]at f;have l:=Lib.hid f;have v:Hid (R[198]?=some (.bool x.full)/\R[199]?=some (.int .i64 x.fake)):=by show _/\_;rw[<-y.o];exact⟨qf _ _ _ _ _ _ _ _ _ 198 (by omega),qf _ _ _ _ _ _ _ _ _ 199 (by omega)⟩
 have n:Hid ((R.setIfInBounds 198 (.bool true)).setIfInBounds 199 (.int .i64 (x.fake+1))=txR (gf,()) x.fo Y (.slice (some ⟨gn,0,none⟩) 32 cn) (.map (some X)) (.map (some Q)) P true (x.fake+1)):=by show _=_;rw[<-y.o];exact Sh _ _ _ _ _ _ _ _ _ _ _
 clear h z U f2 V O hn c0 Z f;go_enter func124,ntmps124;go_wp2_with fail
 refine wp_region_quiet_below (by kernel_rfl) (by kernel_rfl) ?_
 repeat (first
  | go_big_quiet_skip
  | (refine Vc rfl 95 (.tmp 8) rfl gt 1 rfl 150 R A (0,0) _ (fun _ K=>fU K l.o) C.o forT rfl (by rw[L.o];exact forI) ?_;simp only[Act.put,zM,yj,yh])
  | (refine qD 159 #[.tmp 9] #[95] rfl rfl (fun _ _=>by kernel_rfl) #[.agg A] (by kernel_rfl) (.agg S) (fun _ _=>qk) (fun w' _=>G.o w') ?_;simp only[Act.put,zM,yj,yh])
  | (refine qD 48 #[.tmp 17] #[27] rfl rfl (fun _ _=>by kernel_rfl) #[.pointer (some a)] (by kernel_rfl) (.int .i64 (s.k:Int)) (fun _ _=>qk) (fun w' K=>(mC (HD.o.below (sL K))).mono fun e w2 ⟨he,D⟩=>⟨he,D▸zB⟩) ?_;simp only[Act.put,zM,yj,yh])
  | (refine qD 160 #[.tmp 10,.const (.int .i64 37),.tmp 18] #[91,3,3] rfl rfl (fun _ _=>by kernel_rfl) #[.agg S,(37:Int),s.k] (by kernel_rfl) (.tuple #[(),(6:Int)]) (fun _ _=>qk) (fun w' _=>M.o w') ?_;simp only[Act.put,zM,yj,yh])
  | (go_big_quiet_want;go_big_quiet_op;go_big_quiet_on))
 refine vq ?_;intro g t;have r:=Lib.hid (sL t);have d:=Lib.hid (we r.o l.o);clear N J t;have z8:g.frozen? (gt,198)=false:=zF d.o;have y8:g.cell? (gt,198)=some (.bool x.full):=(zC d.o).trans v.o.1;have b:(g.setCell (gt,198) (.bool true)).heap[gt]?=some (.cells (R.setIfInBounds 198 (.bool true)) 150):=zX _ _ 198 _ _ _ d.o;have z9:(g.setCell (gt,198) (.bool true)).frozen? (gt,199)=false:=zF b;have y9:(g.setCell (gt,198) (.bool true)).cell? (gt,199)=some (.int .i64 x.fake):=(zC b).trans (by rw[yO,zb (by omega)];exact v.o.2);have c:((g.setCell (gt,198) (.bool true)).setCell (gt,199) (.int .i64 (x.fake+1))).heap[gt]?=some (.cells ((R.setIfInBounds 198 (.bool true)).setIfInBounds 199 (.int .i64 (x.fake+1))) 150):=zX _ _ 199 _ _ _ b;have ag:((g.setCell (gt,198) (.bool true)).setCell (gt,199) (.int .i64 (x.fake+1))).cell? (gt,199)=some (.int .i64 (x.fake+1)):=(zC c).trans (by rw[n.o];exact qf _ _ _ _ _ _ _ _ _ 199 (by omega));have q:=Lib.hid c;have i1:IntKind.i64.wrap (x.fake+1)=x.fake+1:=zQ _ (by have:=u.o;omega);clear b c;go_wp2;go_ret;have hk:yK (fun i=>i=gt) w ((g.setCell (gt,198) (.bool true)).setCell (gt,199) (.int .i64 (x.fake+1))):=((yK.of_below r.o).step (yK.setCell (F:=fun i=>i=gt) (p:=⟨gt,198,none⟩) rfl _)).step (yK.setCell (F:=fun i=>i=gt) (p:=⟨gt,199,none⟩) rfl _);refine⟨rfl,HL.o.withFull H.o hk ?_ (by have:=u.o;omega)⟩;rw[q.o,n.o]
theorem Xz {x:Tx} (h:TxAt w B F gt (gf,()) x T) (f:FsAt w gf s F1 a) (d:x.fake<1000000):
 Calls prog 124 #[(gt,())] w
  (fun e w'=>e=.returned (.int .i64 (qz x.ow s.k).1)/\vS B F gt (gf,()) (x.wow (qz x.ow s.k).2) T w w'):=by
 have c:x.ow.fo=x.fo:=rfl;unfold qz;rw[c];cases b:jg x.fo s.k with
 | some n=>exact Sc h f n (V4 b)
 | none=>exact QB h f (My b) d
def cutF (f:Fo):Fo:=⟨f.nd,fun k n=>decide (n<256)&&f.hs k n⟩
theorem R9 (f:Fo):encF (cutF f)=encF f:=by
 unfold encF
 congr 1
 funext i
 have b:=rH i.val (show 48 > 0 by omega);unfold uO;split
 .rfl
 .rw[show tD ((cutF f).hs (i.val / 48)) (i.val%48-16)=tD (f.hs (i.val / 48)) (i.val%48-16) from W7 fun j a=>by show (decide _&&_)=_;rw[yf (by omega),uq]]
theorem OT (f:Fo) (n:Nat) (b:256<=n) (w:World):
 Calls prog 125 #[.agg (encF f),n] w fun e w'=>e=.returned (.bool false)/\Below w w w':=by
 have a:∀k,(cutF f).hs k n=false:=fun k=>by show (decide _&&_)=_;rw[zK (by omega)];rfl
 have:=Jf (cutF f) _ rfl n (zu a) w;rw[R9,lU]at this;simp only[a,Bool.and_false,Bool.or_false]at this;exact this
theorem Z2 {x:Tx} (hf:FsAt w0 gf s F1 a) (hb:Below w0 w0 w) (h:TxAt w w0 F gt (gf,()) x T) (ah:x.fake<1000000) (p:Int) (hp:0<=p/\p<=1000000):
 Calls prog 82 #[(gt,()),p] w
  (fun e w'=>e=.returned (.int .i64 (ownU x.ow s.k p).1)/\vS w0 F gt (gf,()) (x.wow (ownU x.ow s.k p).2) T w w'):=by
 obtain⟨n,rfl⟩:=wd hp.1;by_cases ab:n=0
 .subst ab;have HC:=Lib.hid (Xz h (hf.below hb) ah);clear h hf hp ah hb;go_enter func82,ntmps82;go_wp2_with fail
  refine HC.o.mono ?_;rintro e w' ⟨rfl,b⟩;have H2:=Lib.hid b;clear b;go_wp2;go_ret;exact⟨rfl,H2.o⟩
 have H:=Lib.hid h;have Y:Hid (∀(W:World) (D:Tx),D.fake<1000000->vS w0 F gt (gf,()) D T w W->Calls prog 124 #[(gt,())] W
  (fun e w'=>e=.returned (.int .i64 (qz D.ow s.k).1)/\vS w0 F gt (gf,()) (D.wow (qz D.ow s.k).2) T w w')):=fun W D h1 hd=>by
  obtain⟨T1,t1,t2,t3,t4⟩:=id hd;refine (Xz t1 (hf.below (hd.old hb h)) h1).mono fun e w' ⟨a1,a3⟩=>⟨a1,?_⟩;obtain⟨T2,u1,u2,u3,u4⟩:=a3;refine⟨T2,u1,fun i y=>?_,t3.trans u3 t2,fun i y=>u4 i (t4 i y)⟩;rcases u2 i y with y|y
  .exact t2 i y
  .exact zu (zr t3.size y)
 have aa:=Lib.hid ah;obtain⟨rv,gn,cn,gd,gp,gv,E,pl,hl⟩:=h.lies;have HL:=Lib.hid hl;obtain⟨A,S⟩:=zA (encF x.fo);have ai:Hid (A.size=192):=by rw[S.o];exact uh _
 obtain⟨z,Q⟩:∃z,Hid ((z=true/\uT x.fo 4 n=true/\n<256)\/(z=false/\(uT x.fo 4 n=false\/256<=n))):=by
  by_cases c:n<256
  .cases hq:uT x.fo 4 n with
   | true=>exact⟨true,zt ⟨rfl,rfl,c⟩⟩
   | false=>exact⟨false,zu ⟨rfl,zt rfl⟩⟩
  .exact⟨false,zu ⟨rfl,zu (by omega)⟩⟩
 have af:Hid (∀W:World,Calls prog 125 #[.agg A,n] W fun e w'=>e=.returned (.bool z)/\Below W W w'):=fun W=>by
  rw[S.o];by_cases c:n<256
  .have:=QS x.fo n c W;rcases Q.o with⟨rfl,b,_⟩|⟨rfl,b⟩
   .rw[b]at this;exact this
   .rw[b.resolve_right (by omega)]at this;exact this
  .rcases Q.o with⟨_,_,b⟩|⟨rfl,_⟩
   .omega
   .exact OT x.fo n (by omega) W
 obtain⟨R,O⟩:=zD (txR (gf,()) x.fo rv (.slice (some ⟨gn,0,none⟩) 32 cn) (.map (some gd)) (.map (some gp)) gv x.full x.fake);have V:Hid (R.size=200):=by show _=_;rw[<-O.o];exact qY _ _ _ _ _ _ _ _ _
 have ac:Hid (∀j,j<A.size->R[1+j]?=A[j]?):=by rw[<-O.o,S.o];exact gQ _ _ _ _ _ _ _ _ _
 obtain⟨C,u⟩:=zA (enc (x.fo.hs 0));have J:Hid (C.size=32):=by rw[u.o];exact tF _
 have U:Hid (∀j,j<C.size->R[17+j]?=C[j]?):=by rw[<-O.o,u.o];exact iA _ _ _ _ _ _ _ _ _
 obtain⟨B,m⟩:=zA (enc (del (x.fo.hs 0) n));have r:Hid (B.size=32):=by rw[m.o];exact tF _
 have N:Hid (B.all (·.oneCell')=true):=by rw[m.o];exact lO _
 have ae:Hid (n<256->∀W:World,Calls prog 85 #[.agg C,n] W fun e w'=>e=.returned (.agg B)/\Below W W w'):=fun c W=>by have:=K8 (x.fo.hs 0) (n:Int) W (by omega) (by omega);rw[yy]at this;rw[u.o,m.o];exact this
 obtain⟨I,K⟩:=zD (txR (gf,()) (hasF x.fo (del (x.fo.hs 0) n)) rv (.slice (some ⟨gn,0,none⟩) 32 cn) (.map (some gd)) (.map (some gp)) gv x.full x.fake);have ad:Hid ((R.toList.take 17++B.toList++R.toList.drop (17+B.size)).toArray=I):=by rw[<-O.o,m.o,<-K.o];exact Ku _ _ _ _ _ _ _ _ _ _
 have l:=hl.row;rw[O.o]at l;have q:=Lib.hid l;have G:Hid ((n:Int)≠0):=Lib.hid (by omega);have b0:(n==0)=false:=by simp;omega
 have b1:((n:Int)==0)=false:=by simp;omega
 have b2:¬n=0:=by omega
 clear h hl hf hp ah l hb;go_enter func82,ntmps82;go_wp2_with (refine pR (by kernel_rfl) 95 (.tmp 11) rfl gt 1 rfl 150 R A (0,0) _ q.o ac.o forT rfl (by rw[ai.o];exact forI) ?_)
 refine (af.o w).mono ?_;cases z with
 | false=>
  rintro e w' ⟨rfl,hb⟩;have HB:=Lib.hid hb;clear hb;go_wp2;go_ret;have e:ownU x.ow s.k (n:Int)=((n:Int),x.ow):=by
   unfold ownU;rw[zb G.o,zb];rintro ⟨h1,b⟩;rw[yy]at b;rcases Q.o with⟨h0,_⟩|⟨_,P⟩
   .cases h0
   .rcases P with P|P
    .rw[show x.ow.fo=x.fo from rfl,P]at b;cases b
    .omega
  rw[e];exact⟨rfl,vS.same H.o HB.o⟩
 | true=>
  rintro e w1 ⟨rfl,hb⟩;have M:=Lib.hid hb;have f:=Lib.hid (we M.o q.o);have v:Hid (uT x.fo 4 n=true/\n<256):=by
   rcases Q.o with⟨_,b⟩|⟨h0,_⟩
   .exact b
   .cases h0
  clear hb;go_wp2_with fail
  refine fF 13 (by kernel_rfl) (by kernel_rfl) ?_;simp only[wV,xE,wX,wz]
  repeat (first
   | go_big_quiet_skip
   | (refine Vc rfl 91 (.tmp 20) rfl gt 17 rfl 150 R C (0,0) _ (fun _ hw=>fU hw f.o) U.o setT rfl (by rw[J.o];exact setI) ?_;simp only[Act.put,zM,yj,yh])
   | (refine qD 85 #[.tmp 21,.tmp 22] #[91,3] rfl rfl (fun _ _=>by kernel_rfl) #[.agg C,n] (by kernel_rfl) (.agg B) (fun _ _=>qk) (fun w' _=>ae.o v.o.2 w') ?_;simp only[Act.put,zM,yj,yh])
   | (go_big_quiet_want;go_big_quiet_op;go_big_quiet_on))
  refine vq ?_;intro w2 t;have Z:=Lib.hid (Below.step M.o (sL t));have g:=Lib.hid (we (sL t) f.o);clear t;go_wp2_with (refine jr rfl 91 (.tmp 27) (.tmp 23) rfl gt 17 B rfl rfl 150 R I g.o (by rw[r.o];exact setI) (by rw[r.o,V.o];omega) N.o ad.o ?_)
  have d:(w2.setRow gt I).heap[gt]?=some (.cells I 150):=yi _ _ _ _ _ _ g.o;have L:vS w0 F gt (gf,()) {x with fo:=hasF x.fo (del (x.fo.hs 0) n)} T w (w2.setRow gt I):=HL.o.putHas H.o _ ((yK.of_below Z.o).step (yK.setRow (F:=fun i=>i=gt) rfl _)) (by rw[K.o];exact d);have e:ownU x.ow s.k (n:Int)=qz ({x with fo:=hasF x.fo (del (x.fo.hs 0) n)}:Tx).ow s.k:=by unfold ownU;rw[zb G.o,ze ⟨by have:=v.o.2;omega,by rw[yy];exact v.o.1⟩,yy];rfl
  refine (Y.o _ {x with fo:=hasF x.fo (del (x.fo.hs 0) n)} aa.o L).mono ?_;have HE:=Lib.hid e;clear e;rintro e w4 ⟨rfl,b⟩;have X:=Lib.hid b;clear b L d;go_wp2;go_ret;rw[HE.o];exact⟨rfl,X.o⟩
