import Derived.Test.YtpcedcnjofbgjaaGreatDoorKA16
set_option maxHeartbeats 0
set_option linter.all false
set_option maxRecDepth 100000
namespace Go.Proofs.YtpcedcnjofbgjaaGreatDoor
open Go.Proofs.Tryz Go.RowKit
variable {B cn g gd gf gn gp gt k n:Nat} {E:List Nd} {F F1 T T':Nat->Prop} {P:Program} {a:Addr} {c:Array Value} {f fo:Fo} {fp gv nv rv v:Value} {fr:Nat×Nat} {p:Int} {pl:List (Int×Value)} {s:Fs} {t:TypeId} {w w' w0:World} {xs:List Value}
structure Tx where
 fo:Fo
 rows:List (Int×Int)
 nodes:List Pn
 dirty:List (Int×Value)
 put:List (Int×List Int)
 gone:List Int
 full:Bool
 fake:Int
def K8 (fp:Value) (fo:Fo) (rv nv dv pv gv:Value) (full:Bool) (fake:Int) (i:Nat):Value:=
 if i=0 then fp else if i<193 then nu fo ((i-1) / 48) ((i-1)%48) else if i=193 then rv else if i=194 then nv else if i=195 then dv else if i=196 then pv else if i=197 then gv else if i=198 then .bool full else .int .i64 fake
def txR (fp:Value) (fo:Fo) (rv nv dv pv gv:Value) (full:Bool) (fake:Int):Array Value:=Array.ofFn (n:=200) λi=>K8 fp fo rv nv dv pv gv full fake i.val
section
variable (fp : Value) (fo : Fo) (rv nv dv pv gv : Value) (full : Bool) (fake : Int)
theorem qB: (txR fp fo rv nv dv pv gv full fake).size=200:=by simp[txR]
theorem mS (i) (h:i<200):(txR fp fo rv nv dv pv gv full fake)[i]?=some (K8 fp fo rv nv dv pv gv full fake i):=by simp[txR,h]
theorem PC: ∀j,j<(encF fo).size->(txR fp fo rv nv dv pv gv full fake)[1+j]?=(encF fo)[j]? :=λj a=>by rw[vX]at a;rw[mS _ _ _ _ _ _ _ _ _ _ (by omega)];have:=uh fo (j / 48) (j%48) (by omega) (by omega);rw[show j / 48*48+j%48=j by omega]at this;rw[this];unfold K8;rw[zb (by omega),ze (by omega),show 1+j-1=j by omega]
theorem lJ: ∀j,j<(enc (fo.hs 0)).size->(txR fp fo rv nv dv pv gv full fake)[17+j]?=(enc (fo.hs 0))[j]? :=λj b=>by rw[tO]at b;have a:=PC fp fo rv nv dv pv gv full fake (16+j) (by rw[vX];omega);rw[show 1+(16+j)=17+j by omega]at a;rw[a];have:=Pg fo 0 (by omega) j (by rw[tO];exact b);simpa using this
def hasF (f:Fo) (s:Nat->Bool):Fo:=⟨f.nd,λk=>if k=0 then s else f.hs k⟩
def ndF (f:Fo) (k:Nat) (p:Int):Fo:=⟨λa j=>if a=0/\j=k then p else f.nd a j,f.hs⟩
theorem Sn (f) (s) (a j) (h:a≠0\/j<16):nu (hasF f s) a j=nu f a j:=by
 unfold nu hasF;by_cases b:j<16
 .rw[ze b,ze b]
 .rw[zb b,zb b];rcases h with h|h
  .simp[h]
  .exact yi h b
theorem QV (s):((txR fp fo rv nv dv pv gv full fake).toList.take 17++(enc s).toList++(txR fp fo rv nv dv pv gv full fake).toList.drop (17+(enc s).size)).toArray=txR fp (hasF fo s) rv nv dv pv gv full fake:=by
 apply yV;intro i;have d:(enc s).toList.length=32:=by simpa using tO s
 have a:(txR fp fo rv nv dv pv gv full fake).toList.length=200:=by simpa using qB fp fo rv nv dv pv gv full fake
 have f:∀j,(txR fp fo rv nv dv pv gv full fake).toList[j]?=(txR fp fo rv nv dv pv gv full fake)[j]? :=λj=>zK;rw[xw,tO];by_cases g:i<17
 .rw[zR,zV (by rw[Ni,a];omega),zI,ze g,f,mS _ _ _ _ _ _ _ _ _ _ (by omega),mS _ _ _ _ _ _ _ _ _ _ (by omega)];unfold K8;by_cases b:i=0
  .rw[ze b,ze b]
  .rw[zb b,zb b,ze (by omega),ze (by omega),Sn _ _ _ _ (zw (by omega))]
 .by_cases h:i<49
  .rw[zR,zx (by rw[Ni,a];omega),zV (by rw[Ni,a,d];omega),Ni,a,mS _ _ _ _ _ _ _ _ _ _ (by omega),zK,Nx _ _ (by omega)];unfold K8;rw[zb (by omega),ze (by omega)];unfold nu hasF;rw[zb (by omega),show (i-1) / 48=0 by omega,show min 17 200=17 by omega,show (i-1)%48-16=i-17 by omega];rfl
  .rw[zR,zx (by rw[Ni,a];omega),zx (by rw[Ni,a,d];omega),yy,Ni,a,d,f];rw[show 17+32+(i-min 17 200-32)=i by omega];by_cases e:i<200
   .rw[mS _ _ _ _ _ _ _ _ _ _ e,mS _ _ _ _ _ _ _ _ _ _ e];unfold K8;have b:¬i=0:=(by omega);rw[zb b,zb b];by_cases c:i<193
    .rw[ze c,ze c,Sn _ _ _ _ (zu (by omega))]
    .rw[zb c,zb c]
   .rw[zY (by rw[qB];omega),zY (by rw[qB];omega)]
theorem Eo (i) (_h:193<=i) (u) (c:i<200):(txR fp fo rv nv dv pv gv full fake).setIfInBounds i u=Array.ofFn (n:=200) λj=>if j.val=i then u else K8 fp fo rv nv dv pv gv full fake j.val:=by
 apply yV;intro j;rw[yH,qB];by_cases b:i=j
 .rw[ze b,ze (by omega)];subst b;simp[c]
 .rw[zb b];by_cases a:j<200
  .rw[mS _ _ _ _ _ _ _ _ _ _ a];simp[a,yA b]
  .rw[zY (by rw[qB];omega),zY (by simp;omega)]
end
theorem iz (fp) (fo) (rv nv dv pv gv) (full) (fake) (u):(txR fp fo rv nv dv pv gv full fake).setIfInBounds 197 u=txR fp fo rv nv dv pv u full fake:=by
 rw[Eo _ _ _ _ _ _ _ _ _ 197 (by omega) u (by omega)];unfold txR
 congr 1
 funext j
 unfold K8;by_cases h:j.val=197
 .simp[h]
 .simp[h]
structure TxAt (w:World) (B:Nat) (F:Nat->Prop) (gt:Nat) (fp:Value) (x:Tx) (T:Nat->Prop):Prop where
 ex:∃rv gn cn gd gp gv E pl,
  w.heap[gt]?=some (.cells (txR fp x.fo rv (.slice (some ⟨gn,0,none⟩) 32 cn) (.map (some gd)) (.map (some gp)) gv x.full x.fake) 92) /\
  Out (λi=>F i\/T i) w (λw'=>uq w' rv 2 x.rows.length (qP x.rows)) /\
  w.ownsRow B 102 8 (.slice (some ⟨gn,0,none⟩) 32 cn) 32 (ue E)/\Ns (λi=>F i\/T i) w E x.nodes /\
  MapL prog 3 w gd x.dirty /\
  MapL prog 3 w gp pl/\vr w B pl x.put/\gd≠gp /\
  w.ownsRow B 3 1 gv x.gone.length (ints x.gone) /\
  T gn/\T gd/\T gp/\(∀b,gv.ownBlock=some b->T b)
 self:T gt
 len:x.nodes.length=32
 fin:∀i,T i->i<w.heap.size
 new:∀i,T i->B<=i
 gone:x.gone.length<=1000
 put:x.put.length<=1000
 dirty:x.dirty.length<=1000
 rows:x.rows.length<=20
 fake:0<=x.fake/\x.fake<=1000000
def sZ (B:Nat) (F:Nat->Prop) (gt:Nat) (fp:Value) (x':Tx) (T:Nat->Prop) (w w':World):Prop:=
 ∃T',TxAt w' B F gt fp x' T'/\(∀i,T' i->T i\/w.heap.size<=i)/\yK T w w'/\∀i,T i->T' i
theorem kw {φ:World->Prop} (h:Out (λi=>F i\/T i) w φ) (d:yK T w w') (e:∀i,T' i->T i\/w.heap.size<=i):Out (λi=>F i\/T' i) w' φ:=λc b=>
 h c ((d.mono (F1:=λi=>F i\/T i) (λi _ a=>zw a)).trans b λi a=>by
  rcases a with a|a
  .exact zu (zu a)
  .rcases e i a with a|a
   .exact zu (zw a)
   .exact zw a)
theorem iA {L:List Pn} (h:Ns (λi=>F i\/T i) w E L) (m:yK T w w') (n:∀i,T' i->T i\/w.heap.size<=i):Ns (λi=>F i\/T' i) w' E L:=
 ⟨h.1,λi g e=>by obtain⟨b,l,c,f,a,d,j,k⟩:=h.2 i g e;exact⟨b,l,c,f,a,d,j,kw k m n⟩⟩
theorem TxAt.below {x:Tx} (h:TxAt w B F gt fp x T) (O:Below w w w'):TxAt w' B F gt fp x T:=by
 obtain⟨⟨u,J,z,q,o,n,E,C,r,l,G,p,f,j,s,A,K,b,e,d,a⟩,L,M,t,y,v,I,m,k,D⟩:=h;exact⟨⟨u,J,z,q,o,n,E,C,xV O r,l.below O,tt G O,p.keep (yK.of_below O),f.of_block (O.block _ f.lt),j.of_block (O.block _ j.lt),s.keep (λg c _ N=>O.block g (xB N)),A,tt K O,b,e,d,a⟩,
  L,M,λi H=>zr (t i H) O.size,y,v,I,m,k,D⟩
theorem sZ.same {x:Tx} (h:TxAt w B F gt fp x T) (b:Below w w w'):sZ B F gt fp x T w w':=⟨T,h.below b,λ_ a=>zu a,yK.of_below b,λ_ a=>a⟩
theorem xM {K:TypeId} {b:Nat} {l:List (Int×Value)} (h:w.heap[g]?=some (.cells c t fr)) (f:MapL P K w b l):g≠b:=by rintro rfl;obtain⟨⟨e,d,a,_⟩,_⟩:=f;rw[h]at a;injection a with a;cases a
structure mV (w:World) (B:Nat) (F T:Nat->Prop) (gt:Nat) (fp:Value) (x:Tx) (rv:Value) (gn cn gd gp:Nat) (gv:Value) (E:List Nd) (pl:List (Int×Value)):Prop where
 row:w.heap[gt]?=some (.cells (txR fp x.fo rv (.slice (some ⟨gn,0,none⟩) 32 cn) (.map (some gd)) (.map (some gp)) gv x.full x.fake) 92)
 rows:Out (λi=>F i\/T i) w (λw'=>uq w' rv 2 x.rows.length (qP x.rows))
 own:w.ownsRow B 102 8 (.slice (some ⟨gn,0,none⟩) 32 cn) 32 (ue E)
 nds:Ns (λi=>F i\/T i) w E x.nodes
 dirt:MapL prog 3 w gd x.dirty
 puts:MapL prog 3 w gp pl
 secs:vr w B pl x.put
 ne:gd≠gp
 gone:w.ownsRow B 3 1 gv x.gone.length (ints x.gone)
 tn:T gn
 td:T gd
 tp:T gp
 tg:∀b,gv.ownBlock=some b->T b
theorem TxAt.lies {x:Tx} (h:TxAt w B F gt fp x T):∃rv gn cn gd gp gv E pl,mV w B F T gt fp x rv gn cn gd gp gv E pl:=by obtain⟨rv,gn,cn,gd,gp,gv,E,pl,g,e,l,f,j,m,i,k,n,b,d,c,a⟩:=h.ex;exact⟨rv,gn,cn,gd,gp,gv,E,pl,g,e,l,f,j,m,i,k,n,b,d,c,a⟩
theorem mV.block {x:Tx} (h:mV w B F T gt fp x rv gn cn gd gp gv E pl):
 ∃cur,w.heap[gn]?=some (.cells cur 102)/\cur.size=cn*8/\32<=cn/\cn<=maxLen/\cur.toList.take 256=ue E/\B<=gn:=by
 obtain⟨_,⟨b,_⟩|⟨g,c,cur,b,i,e,k,f,j,d⟩⟩:=id h.own
 .cases b
 injection b with a _ l;injection a with a;injection a with a;subst a l;exact⟨cur,e,j,k,f,d,i⟩
theorem mV.below {x:Tx} (h:mV w B F T gt fp x rv gn cn gd gp gv E pl) (b:Below w w w'):mV w' B F T gt fp x rv gn cn gd gp gv E pl:=
 ⟨xV b h.row,h.rows.below b,tt h.own b,h.nds.keep (yK.of_below b),h.dirt.of_block (b.block _ h.dirt.lt),h.puts.of_block (b.block _ h.puts.lt),h.secs.keep (λg _c _ a=>b.block g (xB a)),h.ne,tt h.gone b,h.tn,h.td,h.tp,h.tg⟩
theorem mV.at {x:Tx} (h:mV w B F T gt fp x rv gn cn gd gp gv E pl) (a:T gt) (b:x.nodes.length=32) (c:∀i,T i->i<w.heap.size) (d:∀i,T i->B<=i)
 (e:x.gone.length<=1000) (b2:x.put.length<=1000) (f:x.dirty.length<=1000) (g:x.rows.length<=20) (j:0<=x.fake/\x.fake<=1000000):TxAt w B F gt fp x T:=
 ⟨⟨rv,gn,cn,gd,gp,gv,E,pl,h.row,h.rows,h.own,h.nds,h.dirt,h.puts,h.secs,h.ne,h.gone,h.tn,h.td,h.tp,h.tg⟩,a,b,c,d,e,b2,f,g,j⟩
theorem sZ.old {x y:Tx} (h:sZ w0 F gt fp x T w w') (f:Below w0 w0 w) (g:TxAt w w0 F gt fp y T):Below w0 w0 w':=by obtain⟨e,d,b,a,c⟩:=h;exact f.trans (a.to_below g.new f.size)
theorem TxAt.outer {F':Nat->Prop} {x:Tx} (h:TxAt w B F gt fp x T) (e:∀i,i<w.heap.size->F' i->F i):TxAt w B F' gt fp x T:=by obtain⟨rv,gn,cn,gd,gp,gv,E,pl,a⟩:=h.lies;have b:∀i,i<w.heap.size->(F' i\/T i)->(F i\/T i):=λi c d=>d.imp (e i c) id;exact mV.at (rv:=rv) (gn:=gn) (cn:=cn) (gd:=gd) (gp:=gp) (gv:=gv) (E:=E) (pl:=pl) ⟨a.row,a.rows.grow b,a.own,a.nds.grow b,a.dirt,a.puts,a.secs,a.ne,a.gone,a.tn,a.td,a.tp,a.tg⟩ h.self h.len h.fin h.new h.gone h.put h.dirty h.rows h.fake
theorem TxAt.grow {x:Tx} (h:TxAt w B F gt fp x T) (c:Below w w w') (g) (d:w.heap.size<=g):TxAt w' B (λi=>F i\/i=g) gt fp x T:=
 (h.outer (F':=λi=>F i\/i=g) (λi b a=>by
  rcases a with a|a
  .exact a
  .omega)).below c
theorem TxAt.local {x:Tx} (h:TxAt w B F gt fp x T) (u:F g) (r:¬T g) (v:w.heap[g]?=some (.cells c t)) (y:t≠5) (s:yK (λi=>i=g) w w'):TxAt w' B F gt fp x T:=by
 obtain⟨rv,gn,cn,gd,gp,gv,E,pl,a⟩:=h.lies;have e:∀b,b<w.heap.size->b≠g->w'.heap[b]?=w.heap[b]? :=λb n m=>s.block b n m;have k:∀b,T b->b≠g:=λb e p=>r (p▸e);have f:yK (λi=>F i\/T i) w w':=s.mono λi _ l=>zu (l▸u);refine mV.at (rv:=rv) (gn:=gn) (cn:=cn) (gd:=gd) (gp:=gp) (gv:=gv) (E:=E) (pl:=pl) ⟨(e gt (xB a.row) (k gt h.self)).trans a.row,a.rows.keep f,?_,a.nds.keep f,?_,?_,?_,a.ne,?_,a.tn,a.td,a.tp,a.tg⟩ h.self h.len (λi l=>zr (h.fin i l) s.size) h.new h.gone h.put h.dirty h.rows h.fake
 .exact vE a.own λb d=>e b (a.own.lt b d).2 (by injection d with d;rw[<-d];exact k gn a.tn)
 .exact a.dirt.of_block (e gd a.dirt.lt (k gd a.td))
 .exact a.puts.of_block (e gp a.puts.lt (k gp a.tp))
 .exact a.secs.keep λo q _ j=>e o (xB j) (ve j v (yA y))
 .exact vE a.gone λb d=>e b (a.gone.lt b d).2 (k b (a.tg b d))
section
variable {w : World} {gt : Nat} {fp : Value} {fo : Fo} {rv nv dv pv gv : Value} {full : Bool} {fake : Int} {t : TypeId} {fr : Nat×Nat}
theorem nw (h:w.heap[gt]?=some (.cells (txR fp fo rv nv dv pv gv full fake) t fr)):
 w.cell? (gt,0)=some fp/\w.cell? (gt,193)=some rv/\w.cell? (gt,194)=some nv/\w.cell? (gt,195)=some dv/\w.cell? (gt,196)=some pv/\w.cell? (gt,197)=some gv/\w.cell? (gt,198)=some (.bool full)/\w.cell? (gt,199)=some (.int .i64 fake):=
 have c:=λi (a:i<200)=>(xQ _ _ i _ _ _ h).trans (mS fp fo rv nv dv pv gv full fake i a)
 ⟨c 0 (by omega),c 193 (by omega),c 194 (by omega),c 195 (by omega),c 196 (by omega),c 197 (by omega),c 198 (by omega),c 199 (by omega)⟩
end
def TQ (G:Nat->Prop) (X:Pn) (w':World) (q:Option Addr) (n c:Nat):Prop:=Out G w' (λw2=>tP w2 (q,n,c) X.P)
theorem kN {x:Tx} (h:TxAt w B F gt fp x T) (i:Nat) (hi:i<32) (X) (hX:x.nodes[i]?=some X):
 Calls prog 64 #[(gt,()),(i+1:Int)] w
  (λe w'=>∃q n c,e=.returned (.agg #[.int .i64 X.k,.int .i64 X.m,.int .i64 X.u,.int .i64 X.g,.int .i64 X.s,.int .i64 X.l,.int .i64 X.up,.slice q n c])/\TQ (λi=>F i\/T i) X w' q n c/\Below w w w'):=by
 obtain⟨⟨rv,gn,cn,gd,gp,gv,E,pl,R,h2,W,O,h5,h6,h7,h8,h9,K,S,N,D⟩,a1,a2,a3,a4,a5,a6,a7,a8,a9⟩:=h;obtain⟨_,_,ae,_⟩:=nw R;have t:E.length=32:=by rw[O.1];exact a2
 have a:uq w (.slice (some ⟨gn,0,none⟩) 32 cn) 8 E.length (ue E):=by rw[t];exact uq.of_owns W
 obtain⟨p2,ap,A,V⟩:=rR a;rw[t]at A V;injection A with j _ p;subst j p;obtain⟨g,o,f,hg,hc⟩:=V.o (by omega);injection f with f;injection f with j p;subst j p;have z:i<E.length:=by omega
 have b:i<x.nodes.length:=by omega
 obtain⟨G,j,p,U,P,M,L,I⟩:=sB hc i z;have d:=O.2 i z b;have C:x.nodes[i]=X:=by rw[zk b]at hX;injection hX
 rw[C]at d;generalize E[i]=y at G j p U P M L I d;obtain⟨yk,ym,yu,yg,ys,yl,aw,H,Q,J⟩:=y;obtain⟨f0,f1,Y,f3,Z,f5,f6,r⟩:=d;dsimp only at G j p U P M L I f0 f1 Y f3 Z f5 f6;subst f0 f1 Y f3 Z f5 f6;have HI:=za r;have ad:=xB R;have ab:¬gt=w.heap.size:=by omega
 have aq:¬gn=w.heap.size:=by omega
 have i1:IntKind.i64.wrap (i+1-1)=i:=by rw[zM _ (by omega)];omega
 simp only[yF]at G j p U P M L I;clear R h2 W O h5 h6 h7 h9 K S N D V hc r a hX C b a1 a2 a3 a4 a5 a6 a7 a8 a9;go_enter func64,ntmps64;go_wp2;obtain⟨z0,z1,z2,z3,z4,z5,z6,z7⟩:=ug (zO w (.cells #[X.k,X.m,X.u,X.g,X.s,X.l,X.up,(H,Q,J)] 102));have HB:Hid (Below w w (w.alloc (.cells #[X.k,X.m,X.u,X.g,X.s,X.l,X.up,(H,Q,J)] 102))):=zB.alloc zL _;exact yE (v:=.agg #[X.k,X.m,X.u,X.g,X.s,X.l,X.up,(H,Q,J)]) (by simp[results,results64,go_sem,z0,z1,z2,z3,z4,z5,z6,z7]) rfl ⟨_,_,_,rfl,HI.o.below HB.o,HB.o⟩
theorem Dg (E) (i) (h:i<E.length) (e):((ue E).toArray.toList.take (i*8)++(nd8 e).toArray.toList++(ue E).toArray.toList.drop (i*8+(nd8 e).toArray.size)).toArray=(ue (E.set i e)).toArray:=by
 congr 1
 have d:(nd8 e).toArray.size=8:=rfl;rw[d,xU,xU]
 induction E generalizing i with
 | nil=>simp at h
 | cons y E f=>
  have b:ue (y::E)=nd8 y++ue E:=rfl;have a:(nd8 y).length=8:=rfl;cases i with
  | zero=>
   rw[b,yf];show (nd8 y++ue E).take 0++nd8 e++(nd8 y++ue E).drop 8=nd8 e++ue E;rw[xH,yJ,vC (by rw[a];exact zL),show (nd8 y).drop 8=[] from rfl,yJ]
  | succ i=>
   have:=f i (by simpa using h);rw[b,yb,show ue (y::E.set i e)=nd8 y++ue (E.set i e) from rfl,<-this];rw[show (i+1)*8=8+i*8 by omega,show 8+i*8+8=8+(i*8+8) by omega];rw[oJ,List.drop_append,a];have c:(nd8 y).take (8+i*8)=nd8 y:=zo (by rw[a];omega);have g:(nd8 y).drop (8+(i*8+8))=[]:=vd (by rw[a];omega);rw[c,g,yJ,show 8+i*8-8=i*8 by omega,show 8+(i*8+8)-8=i*8+8 by omega,zR,zR,zR]
theorem jV {α:Type} (l d:List α) (a m) (h:a+d.length<=m) (c:m<=l.length):(l.take a++d++l.drop (a+d.length)).take m=(l.take m).take a++d++(l.take m).drop (a+d.length):=by
 have b:(l.take m).take a=l.take a:=by rw[we,Cg (by omega)]
 rw[b,zR,oJ,oJ,Ni,Cg (by omega)];rw[zo (by rw[Ni];omega),zo (l:=d) (by omega),zR]
 congr 2
 rw[Ly]
 congr 1
 omega
theorem Zi {x:Tx} (h:TxAt w B F gt fp x T) (i:Nat) (hi:i<32) (X) (q) (n c) (hX:TQ (λi=>F i\/T i) X w q n c) (hd:x.dirty.length<900):
 Calls prog 65 #[(gt,()),(i+1:Int),.agg #[(X.k:Int),(X.m:Int),(X.u:Int),(X.g:Int),(X.s:Int),(X.l:Int),(X.up:Int),.slice q n c]] w
  (ρ (.tuple #[]) λw'=>sZ B F gt fp {x with nodes:=x.nodes.set i X,dirty:=putZ x.dirty (i+1) (.bool true)} T w w'):=by
 have H:=za h;obtain⟨⟨rv,gn,cn,gd,gp,gv,E,pl,f,z,R,h4,h5,h6,h7,h8,h9,ac,ak,ah,U⟩,a1,a2,a3,a4,a5,a6,a7,a8,a9⟩:=h;have an:Hid (mV w B F T gt fp x rv gn cn gd gp gv E pl):=⟨f,z,R,h4,h5,h6,h7,h8,h9,ac,ak,ah,U⟩;obtain⟨c0,aF,ae,aI,aK,aO,aL,aH⟩:=nw f;have aa:E.length=32:=by rw[h4.1];exact a2
 have ad:=xB f;have aG:¬gt=w.heap.size:=by omega
 have i1:IntKind.i64.wrap (i+1-1)=i:=by rw[zM _ (by omega)];omega
 obtain⟨_,⟨N,_⟩|⟨bm,bg,t,N,bl,hh,J,al,Y,O⟩⟩:=id R
 .cases N
 injection N with Z _ e2;injection Z with Z;injection Z with Z;subst Z e2;have HN:=za hh;have aq:Hid (t.size=cn*8/\32<=cn):=⟨Y,J⟩;have az:=za (ve f hh (by decide));have ag:=za f;have C:=za h5;clear f z R h4 h5 h6 h7 h9 ac ak ah U O Y al J a1 a2 a3 a4 a5 a6 a7 a8 a9;go_enter func65,ntmps65;go_wp2_with fail
 have ab:=zO w (.cells #[X.k,X.m,X.u,X.g,X.s,X.l,X.up,(q,n,c)] 102);have aC:=za ab;have ai:Hid (Below w w (w.alloc (.cells #[X.k,X.m,X.u,X.g,X.s,X.l,X.up,(q,n,c)] 102))):=zB.alloc zL _;have K:=(ai.o.cell (p:=⟨gt,194,none⟩) ad).trans ae;clear ab;generalize w.alloc (.cells #[X.k,X.m,X.u,X.g,X.s,X.l,X.up,(q,n,c)] 102)=w1 at *
 have am:=xX K;refine fF 8 (by kernel_rfl) (by kernel_rfl) ?_;simp only[vu,xH,vv,vy]
 repeat (first
  | go_big_quiet_skip
  | (refine mp rfl 102 (.tmp 5) rfl w rfl 102 #[X.k,X.m,X.u,X.g,X.s,X.l,X.up,(q,n,c)] (0,0) _ (λ_ hw=>qy hw aC.o) underlying102 rfl Y2 ?_;simp only[Act.put,zP,yf,yb])
  | (go_big_quiet_want;go_big_quiet_op;go_big_quiet_on))
 refine vn ?_;intro S ao;have j:=zi ai.o (us ao);obtain⟨e,He⟩:∃e:Nd,Hid (e=⟨X.k,X.m,X.u,X.g,X.s,X.l,X.up,q,n,c⟩):=⟨_,rfl⟩;obtain⟨d,M⟩:∃Q:Array Value,Hid ((t.toList.take (i*8)++(#[X.k,X.m,X.u,X.g,X.s,X.l,X.up,(q,n,c)]:Array Value).toList++t.toList.drop (i*8+8)).toArray=Q):=⟨_,rfl⟩;have L:=za (xV j HN.o);have a0:=za aq.o;have aj:=az.o;have aD:=za (xV j ag.o);have aQ:=(vM (yO S gn gt d aj)).trans (nw aD.o).2.2.2.1;have V:=za ((C.o.of_block (j.block _ C.o.lt)).of_block (yO S gn gd d (λv=>by have f:=C.o.of_block (j.block _ C.o.lt);obtain⟨⟨es,au,z,_⟩,_⟩:=f;rw[v,L.o]at z;injection z with z;cases z)));clear am K;go_wp2_with (first
  | (refine rT rfl 102 (.tmp 13) (.tmp 12) rfl gn (i*8) #[X.k,X.m,X.u,X.g,X.s,X.l,X.up,(q,n,c)] rfl rfl 102 t d L.o Y2 (by have:=a0.o;show i*8+8<=t.size;omega) (Rn _ _ _ _ _ _ _ _ rfl) M.o ?_)
  | (at_mapUpdate;refine P4 _ rfl _ _ _ _ rfl 3 4 intT RS gd x.dirty ((i:Int)+1) (.bool true) rfl V.o (by omega) rfl rfl (by unfold InZ;omega) ?_;intro w4 ar P))
 go_end0
 have G:=H.o;have a:=an.o;have av:yK T w S:=yK.of_below j;have aA:yK T w (S.setRow gn d):=av.step (yK.setRow a.tn _);have A:=aA.step (yK.grown P.grown (λr hr=>by injection hr with hr;rw[<-hr];exact a.td));have D:∀b,b<w.heap.size->b≠gn->b≠gd->w4.heap[b]?=w.heap[b]? :=λb y f z=>
  (P.grown.block b (by simp;exact zr y j.size) (by intro v;injection v with v;exact z v)).trans ((yO S gn b d f).trans (j.block b y))
 have af:w4.heap[gn]?=some (.cells d 102):=by have f:(S.setRow gn d).heap[gn]?=some (.cells d 102):=ya _ _ _ _ _ _ L.o;exact (P.grown.block gn (xB f) (by intro v;injection v with v;exact xM f V.o v)).trans f
 obtain⟨Q,I,q2,q3,q4,q5,q6⟩:=a.block;have aB:Q=t:=by rw[HN.o]at I;injection I with I;injection I with I;exact I.symm
 subst aB;have aa:E.length=32:=by rw[a.nds.1];exact G.len
 have W:(nd8 ⟨X.k,X.m,X.u,X.g,X.s,X.l,X.up,q,n,c⟩).length=8:=rfl;have O:d.toList.take 256=ue (E.set i ⟨X.k,X.m,X.u,X.g,X.s,X.l,X.up,q,n,c⟩):=by rw[<-M.o];have f:=jV Q.toList (nd8 ⟨X.k,X.m,X.u,X.g,X.s,X.l,X.up,q,n,c⟩) (i*8) 256 (by rw[W];omega) (by simp only[ye];omega);rw[W]at f;show (Q.toList.take (i*8)++nd8 ⟨X.k,X.m,X.u,X.g,X.s,X.l,X.up,q,n,c⟩++Q.toList.drop (i*8+8)).take 256=_;rw[f,q5];have z:=Dg E i (by omega) ⟨X.k,X.m,X.u,X.g,X.s,X.l,X.up,q,n,c⟩;have R:=zQ Array.toList z;rw[xU,xU]at R;exact R
 have ax:d.size=cn*8:=by rw[<-M.o];simp only[uj,zl,Ni,Nk,ye,yv,xC];omega
 refine⟨rfl,T,mV.at (rv:=rv) (gn:=gn) (cn:=cn) (gd:=gd) (gp:=gp) (gv:=gv) (E:=E.set i ⟨X.k,X.m,X.u,X.g,X.s,X.l,X.up,q,n,c⟩) (pl:=pl) ⟨?_,kw a.rows A (λ_ hi=>zu hi),?_,?_,ar,?_,?_,a.ne,?_,a.tn,a.td,a.tp,a.tg⟩ G.self (by simpa using G.len) (λi hi=>zr (G.fin i hi) A.size) G.new G.gone G.put ?_ G.rows G.fake,λ_ hi=>zu hi,A,λ_ hi=>hi⟩
 .exact (D gt (xB a.row) aj (xM a.row a.dirt)).trans a.row
 .refine⟨by rw[Y6,xT,aa],zw ⟨gn,cn,d,rfl,q6,af,q3,q4,ax,O⟩⟩
 .refine Ns.set (iA a.nds A (λ_ hi=>zu hi)) ⟨rfl,rfl,rfl,rfl,rfl,rfl,rfl,?_⟩ i;exact kw hX A (λ_ hi=>zu hi)
 .exact a.puts.of_block (D gp a.puts.lt (yA (xM I a.puts)) (yA a.ne))
 .exact a.secs.keep λg cc _ v=>D g (xB v) (ve v I (by decide)) (xM v a.dirt)
 .refine vE a.gone λb y=>D b (a.gone.lt b y).2 ?_ ?_
  .exact tK a.gone I (by decide) b y
  .obtain⟨_,⟨N,_⟩|⟨g,c1,aX,N,_,ap,_⟩⟩:=id a.gone
   .rw[N]at y;cases y
   .rw[N]at y;injection y with y;rw[<-y];exact xM ap a.dirt
 .exact zv (pT _ _ _) (by omega)
theorem mV.putHas {x:Tx} (h:mV w B F T gt fp x rv gn cn gd gp gv E pl) (t:TxAt w B F gt fp x T) (fo)
 (u:yK (λi=>i=gt) w w') (v:w'.heap[gt]?=some (.cells (txR fp fo rv (.slice (some ⟨gn,0,none⟩) 32 cn) (.map (some gd)) (.map (some gp)) gv x.full x.fake) 92)):sZ B F gt fp {x with fo:=fo} T w w':=by
 have d:yK T w w':=u.mono λi _ c=>by rw[c];exact t.self
 have e:∀b,b<w.heap.size->b≠gt->w'.heap[b]?=w.heap[b]? :=λb k j=>u.block b k j;obtain⟨p,n,s,o,r,q,m⟩:=h.block;refine⟨T,mV.at (x:={x with fo:=fo}) (rv:=rv) (gn:=gn) (cn:=cn) (gd:=gd) (gp:=gp) (gv:=gv) (E:=E) (pl:=pl) ⟨v,kw h.rows d (λ_ c=>zu c),?_,iA h.nds d (λ_ c=>zu c),?_,?_,?_,h.ne,?_,h.tn,h.td,h.tp,h.tg⟩ t.self t.len (λi c=>zr (t.fin i c) u.size) t.new t.gone t.put t.dirty t.rows t.fake,λ_ c=>zu c,d,λ_ c=>c⟩
 .exact vE h.own λb a=>e b (h.own.lt b a).2 (tK h.own h.row (by decide) b a)
 .exact h.dirt.of_block (e gd h.dirt.lt (yA (xM h.row h.dirt)))
 .exact h.puts.of_block (e gp h.puts.lt (yA (xM h.row h.puts)))
 .exact h.secs.keep λg l _ f=>e g (xB f) (ve f h.row (by decide))
 .exact vE h.gone λb a=>e b (h.gone.lt b a).2 (tK h.gone h.row (by decide) b a)
def IJ (f:Fo) (k n:Nat):Prop:=37<=n/\n<k/\sV f 4 n=false/\∀m,37<=m->m<n->sV f 4 m=true
def useF (f:Fo) (n:Nat):Fo:=hasF f (ins (f.hs 0) n)
theorem Ke {x:Tx} (h:TxAt w B F gt (gf,()) x T) (hf:FsAt w gf s F1 a) (n) (hn:IJ x.fo s.k n):
 Calls prog 140 #[(gt,())] w
  (ρ (n:Int) λw'=>sZ B F gt (gf,()) {x with fo:=useF x.fo n} T w w'):=by
 have H:=za h;obtain⟨rv,gn,cn,gd,gp,gv,E,pl,I⟩:=h.lies;have HL:=za I;obtain⟨⟨gl,aq,ap,bt,bh,E',tl,FD,f1,f2,_⟩,_,_,_,_,k0,Z,_⟩:=hf;have HK:Hid (64<=s.k/\s.k<=256):=⟨k0,Z⟩;obtain⟨c0,_⟩:=nw I.row;have d0:w.cell? (gf,0)=some (.pointer (some a)):=(xQ _ _ 0 _ _ _ f1).trans (rP _ _ _ _ _ _ _ 0 (by omega));have HD:=za f2;have Y:=xX c0;have O:=xX d0;obtain⟨A,N⟩:=zA (encF x.fo);have P:Hid (A.size=192):=by rw[N.o];exact vX _
 obtain⟨S,HS⟩:=zA (enc (sV x.fo 4));have L:Hid (∀W,Calls prog 181 #[.agg A] W (κ W (.agg S))):=λW=>by rw[N.o,HS.o];exact Mg x.fo W
 have U:Hid (∀W,Calls prog 182 #[.agg S,(37:Int),s.k] W (κ W (.tuple #[n,()]))):=λW=>by rw[HS.o];have:=HK.o;exact XG (sV x.fo 4) 37 s.k n W (by omega) (by omega) (by omega) (by omega) (by have:=hn.1;omega) (by have:=hn.2.1;omega) (by have:=hn.2.1;omega) hn.2.2.1 (λm h1 h2=>hn.2.2.2 m (by omega) h2)
 obtain⟨R,v⟩:=zD (txR (gf,()) x.fo rv (.slice (some ⟨gn,0,none⟩) 32 cn) (.map (some gd)) (.map (some gp)) gv x.full x.fake);have V:Hid (R.size=200):=by show _=_;rw[<-v.o];exact qB _ _ _ _ _ _ _ _ _
 have J:Hid (∀j,j<A.size->R[1+j]?=A[j]?):=by rw[<-v.o,N.o];exact PC _ _ _ _ _ _ _ _ _
 obtain⟨t,q⟩:=zA (enc (x.fo.hs 0));have y:Hid (t.size=32):=by rw[q.o];exact tO _
 have Q:Hid (∀j,j<t.size->R[17+j]?=t[j]?):=by rw[<-v.o,q.o];exact lJ _ _ _ _ _ _ _ _ _
 obtain⟨r,g⟩:=zA (enc (ins (x.fo.hs 0) n));have p:Hid (r.size=32):=by rw[g.o];exact tO _
 have u:Hid (r.all (·.oneCell')=true):=by rw[g.o];exact Zx _
 have M:Hid (∀W,Calls prog 87 #[.agg t,n] W (κ W (.agg r))):=λW=>by have:=jT (x.fo.hs 0) (n:Int) W (by omega) (by have:=hn.2.1;have:=HK.o;omega);rw[yQ]at this;rw[q.o,g.o];exact this
 obtain⟨R1,C⟩:=zD (txR (gf,()) (useF x.fo n) rv (.slice (some ⟨gn,0,none⟩) 32 cn) (.map (some gd)) (.map (some gp)) gv x.full x.fake);have K:Hid ((R.toList.take 17++r.toList++R.toList.drop (17+r.size)).toArray=R1):=by rw[<-v.o,g.o,<-C.o];exact QV _ _ _ _ _ _ _ _ _ _
 have d:=I.row;rw[v.o]at d;have l:=za d;clear h I f1 f2 k0 Z hn c0 d0 d;go_enter func140,ntmps140;go_wp2_with fail
 refine vg (by kernel_rfl) (by kernel_rfl) ?_
 repeat (first
  | go_big_quiet_skip
  | (refine ou rfl 85 (.tmp 8) rfl gt 1 rfl 92 R A (0,0) _ (λ_ z=>qy z l.o) J.o forT rfl (by rw[P.o];exact forI) ?_;simp only[Act.put,zP,yf,yb])
  | (refine sG 181 #[.tmp 9] #[85] rfl rfl (λ_ _=>by kernel_rfl) #[.agg A] (by kernel_rfl) (.agg S) (λ_ _=>vY) (λw' _=>L.o w') ?_;simp only[Act.put,zP,yf,yb])
  | (refine sG 77 #[.tmp 17] #[26] rfl rfl (λ_ _=>by kernel_rfl) #[a] (by kernel_rfl) (.int .i64 (s.k:Int)) (λ_ _=>vY) (λw' z=>(jm (HD.o.below (us z))).mono λe w2 ⟨he,b⟩=>⟨he,b▸zB⟩) ?_;simp only[Act.put,zP,yf,yb])
  | (refine sG 182 #[.tmp 10,.const (.int .i64 37),.tmp 18] #[81,3,3] rfl rfl (λ_ _=>by kernel_rfl) #[.agg S,(37:Int),s.k] (by kernel_rfl) (.tuple #[n,()]) (λ_ _=>vY) (λw' _=>U.o w') ?_;simp only[Act.put,zP,yf,yb])
  | (go_big_quiet_want;go_big_quiet_op;go_big_quiet_on))
 refine vn ?_;intro w1 G;have D:=za (us G);have f:=za (xV D.o l.o);clear Y O G;go_wp2_with fail
 refine fF 13 (by kernel_rfl) (by kernel_rfl) ?_;simp only[vu,xH,vv,vy]
 repeat (first
  | go_big_quiet_skip
  | (refine ou rfl 81 (.tmp 43) rfl gt 17 rfl 92 R t (0,0) _ (λ_ z=>qy z f.o) Q.o setT rfl (by rw[y.o];exact setI) ?_;simp only[Act.put,zP,yf,yb])
  | (refine sG 87 #[.tmp 44,.tmp 45] #[81,3] rfl rfl (λ_ _=>by kernel_rfl) #[.agg t,n] (by kernel_rfl) (.agg r) (λ_ _=>vY) (λw' _=>M.o w') ?_;simp only[Act.put,zP,yf,yb])
  | (go_big_quiet_want;go_big_quiet_op;go_big_quiet_on))
 refine vn ?_;intro w2 b;have X:=za (zi D.o (us b));have c:=za (xV (us b) f.o);clear b;go_wp2_with (refine rT rfl 81 (.tmp 50) (.tmp 46) rfl gt 17 r rfl rfl 92 R R1 c.o (by rw[p.o];exact setI) (by rw[p.o,V.o];omega) u.o K.o ?_)
 go_ret;refine⟨rfl,HL.o.putHas H.o (useF x.fo n) ((yK.of_below X.o).step (yK.setRow (F:=λi=>i=gt) rfl _)) ?_⟩;rw[C.o];exact ya _ _ _ _ _ _ c.o
theorem Qw: prog.underlying 90=some (.map 3 38):=by kernel_rfl
theorem u8sZ: ∀w,(zeroValue 38).run prog w=.ok (.slice none 0 0) w:=(ui (P:=prog) (t:=38) (v:=.slice none 0 0) (n:=1) (by kernel_rfl)).1
def secE (s:Fs) (n:Nat):List Int:=(getZ s.todo n).getD (sec s.dk.N n)
theorem sW {d lg:Value} {tv hv:Value} (h:w.heap[gf]?=some (.cells (fsR d lg fo rv nv tv hv) t fr)):
 w.cell? (gf,0)=some d/\w.cell? (gf,1)=some lg/\w.cell? (gf,194)=some rv/\w.cell? (gf,195)=some nv/\w.cell? (gf,196)=some tv/\w.cell? (gf,197)=some hv:=
 have c:=λi (a:i<198)=>(xQ _ _ i _ _ _ h).trans (rP d lg fo rv nv tv hv i a)
 ⟨c 0 (by omega),c 1 (by omega),c 194 (by omega),c 195 (by omega),c 196 (by omega),c 197 (by omega)⟩
theorem OG (h:FsAt w gf s F a) (n) (hn:n<s.k):
 Calls prog 156 #[(gf,()),(n:Int)] w (fR (secE s n) w):=by
 obtain⟨⟨Z,rv,nv,bt,bh,E,tl,FD,u,t,Q,I,K,T,J,P,U,d,f,m,g,i,p,q,j⟩,V,W,L,O,M,R,H⟩:=h;obtain⟨c0,_,_,_,S,_⟩:=sW u;have b:=d.look_ok (k:=(n:Int)) intT Qw (u8sZ w) (by unfold InZ;omega);have y:=za (oX t n hn);rcases f.sec.get (k:=(n:Int)) with⟨r,l⟩|⟨v,D,r,l,C⟩
 .unfold hasZ at b;rw[r]at b;have B:Hid (secE s n=sec s.dk.N n):=by show _=_;unfold secE;rw[l];rfl
  rw[show ((none:Option Value).getD (.slice none 0 0))=.slice none 0 0 from rfl,show ((none:Option Value).isSome)=false from rfl]at b;clear u t Q I K T J P U d f m g i p q j V W L O M R H r l;go_enter func156,ntmps156;go_wp2_with fail
  refine y.o.mono ?_;rintro e X ⟨x,rfl,c⟩;have A:=za c;clear c;go_wp2;go_ret2;rw[B.o];exact⟨x,rfl,A.o⟩
 .unfold hasZ at b;rw[r]at b;have B:Hid (secE s n=D):=by show _=_;unfold secE;rw[l];rfl
  rw[show ((some v).getD (.slice none 0 0))=v from rfl,show ((some v).isSome)=true from rfl]at b;have G:D.length=64:=by obtain⟨_,_,_,_,Y,_⟩:=C;exact Y
  have z:=za (ZH v D w C.at (by omega) (by omega));clear u t Q I K T J P U d f m g i p q j V W L O M R H r l C;go_enter func156,ntmps156;go_wp2_with fail
  refine z.o.mono ?_;rintro e X ⟨x,rfl,c⟩;have A:=za c;clear c;go_wp2;go_ret2;rw[B.o];exact⟨x,rfl,A.o⟩
def secT (x:Tx) (s:Fs) (n:Nat):List Int:=(getZ x.put n).getD (secE s n)
def sc (x:Tx) (s:Fs) (P:List Int) (k:Nat):List Int:=if P.getD k 0=0 then List.replicate 64 0 else secT x s (P.getD k 0).toNat
theorem kM.bump {D:List Int} {w1:World} {e:Ending} (l:Below w w w1) (h:kM D w1 e w'):kM D w e w':=by obtain⟨v,d,g,b,a,i,c,k,f,j⟩:=h;exact⟨v,d,g,b,a,i,⟨zv l.size c.1,c.2⟩,k,f,zi l j⟩
theorem mV.putMap {x:Tx} (h:mV w B F T gt fp x rv gn cn gd gp gv E pl) (A:TxAt w B F gt fp x T) (p) (v) (D)
 (C:js w B v D) (G:yK (λi=>i=gp) w w') (H:MapL prog 3 w' gp (putZ pl p v)) (I:x.put.length<1000):TxAt w' B F gt fp {x with put:=putZ x.put p D} T:=by
 have e:yK T w w':=G.mono λi _ c=>by rw[c];exact h.tp
 have d:∀b,b<w.heap.size->b≠gp->w'.heap[b]?=w.heap[b]? :=λb o k=>G.block b o k;obtain⟨s,n,z,r,y,t,q⟩:=h.block;refine mV.at (x:={x with put:=putZ x.put p D}) (rv:=rv) (gn:=gn) (cn:=cn) (gd:=gd) (gp:=gp) (gv:=gv) (E:=E) (pl:=putZ pl p v) ⟨(d gt (xB h.row) (xM h.row h.puts)).trans h.row,kw h.rows e (λ_ c=>zu c),?_,iA h.nds e (λ_ c=>zu c),?_,H,?_,h.ne,?_,h.tn,h.td,h.tp,h.tg⟩ A.self A.len (λi c=>zr (A.fin i c) G.size) A.new A.gone (zv (pT _ _ _) I) A.dirty A.rows A.fake
 .exact vE h.own λb a=>d b (h.own.lt b a).2 (by injection a with a;rw[<-a];exact xM n h.puts)
 .exact h.dirt.of_block (d gd h.dirt.lt h.ne)
 .exact vr.put (P8 C λg l _ f=>d g (xB f) (xM f h.puts)) (h.secs.keep λg l _ f=>d g (xB f) (xM f h.puts))
 .refine vE h.gone λb a=>d b (h.gone.lt b a).2 ?_;obtain⟨_,⟨C,_⟩|⟨g,u,m,C,_,j,_⟩⟩:=id h.gone
  .rw[C]at a;cases a
  .rw[C]at a;injection a with a;rw[<-a];exact xM j h.puts
theorem Ko {R:Array Value} {dv pv:Value} {full:Bool} {fake:Int} (b:R.size=200) (h:∀i,i<200->R[i]?=some (K8 fp fo rv nv dv pv gv full fake i)):R=txR fp fo rv nv dv pv gv full fake:=by
 apply yV;intro i;by_cases a:i<200
 .rw[h i a,mS _ _ _ _ _ _ _ _ _ _ a]
 .rw[zY (by omega),zY (by rw[qB];omega)]
theorem Kj (fp) (fo) (rv nv dv pv gv) (full b) (fake f2):((txR fp fo rv nv dv pv gv full fake).setIfInBounds 198 (.bool b)).setIfInBounds 199 (.int .i64 f2)=txR fp fo rv nv dv pv gv b f2:=by
 refine Ko (by simp[qB]) λi d=>?_;rw[yH,yH,xL,qB,mS _ _ _ _ _ _ _ _ _ _ d];unfold K8;by_cases c:199=i
 .subst c;rfl
 .rw[zb c];by_cases a:198=i
  .subst a;rfl
  .rw[zb a];by_cases f:i<198
   .have e:¬i=198:=(by omega);simp only[e,mY]
    repeat (first|rfl|(split;rfl))
    omega
   .omega
def pM (f:Fo) (k:Nat):Option Nat:=(List.range k).find? λn=>decide (37<=n)&&!sV f 4 n
theorem o8 (h:pM f k=some n):IJ f k n:=by unfold pM at h;rw[List.find?_range_eq_some]at h;obtain⟨a,c,e⟩:=h;simp only[yS,xe,um]at a;refine⟨a.1,xy.1 c,a.2,λm d b=>?_⟩;have:=e m b;simpa[d]using this
theorem j0 (h:pM f k=none) (m) (a:37<=m) (b:m<k):sV f 4 m=true:=by unfold pM at h;rw[List.find?_eq_none]at h;have:=h m (xy.2 b);simpa[a]using this
structure Ow where
 fo:Fo
 fl:Bool
 fk:Int
def qz (o:Ow) (k:Nat):Int×Ow:=match pM o.fo k with
 | some n=>(n,{o with fo:=useF o.fo n})
 | none=>(o.fk+1,{o with fl:=true,fk:=o.fk+1})
def ownU (o:Ow) (k:Nat) (p:Int):Int×Ow:=
 if p=0 then qz o k else if p<256/\uF o.fo 4 p.toNat=true then qz {o with fo:=hasF o.fo (del (o.fo.hs 0) p.toNat)} k else (p,o)
def Tx.ow (x:Tx):Ow:=⟨x.fo,x.full,x.fake⟩
def Tx.wow (x:Tx) (o:Ow):Tx:={x with fo:=o.fo,full:=o.fl,fake:=o.fk}
theorem mV.withFull {x:Tx} (h:mV w B F T gt fp x rv gn cn gd gp gv E pl) (m:TxAt w B F gt fp x T) {b:Bool} {f2:Int}
 (n:yK (λi=>i=gt) w w') (o:w'.heap[gt]?=some (.cells (txR fp x.fo rv (.slice (some ⟨gn,0,none⟩) 32 cn) (.map (some gd)) (.map (some gp)) gv b f2) 92)) (p:0<=f2/\f2<=1000000):sZ B F gt fp {x with full:=b,fake:=f2} T w w':=by
 have d:yK T w w':=n.mono λi _ c=>by rw[c];exact m.self
 have e:∀b,b<w.heap.size->b≠gt->w'.heap[b]?=w.heap[b]? :=λb k j=>n.block b k j;refine⟨T,mV.at (x:={x with full:=b,fake:=f2}) (rv:=rv) (gn:=gn) (cn:=cn) (gd:=gd) (gp:=gp) (gv:=gv) (E:=E) (pl:=pl) ⟨o,kw h.rows d (λ_ c=>zu c),?_,iA h.nds d (λ_ c=>zu c),?_,?_,?_,h.ne,?_,h.tn,h.td,h.tp,h.tg⟩ m.self m.len (λi c=>zr (m.fin i c) n.size) m.new m.gone m.put m.dirty m.rows p,λ_ c=>zu c,d,λ_ c=>c⟩
 .exact vE h.own λb a=>e b (h.own.lt b a).2 (tK h.own h.row (by decide) b a)
 .exact h.dirt.of_block (e gd h.dirt.lt (yA (xM h.row h.dirt)))
 .exact h.puts.of_block (e gp h.puts.lt (yA (xM h.row h.puts)))
 .exact h.secs.keep λg l _ f=>e g (xB f) (ve f h.row (by decide))
 .exact vE h.gone λb a=>e b (h.gone.lt b a).2 (tK h.gone h.row (by decide) b a)
theorem Em {x:Tx} (h:TxAt w B F gt (gf,()) x T) (hf:FsAt w gf s F1 a) (hn:∀m,37<=m->m<s.k->sV x.fo 4 m=true) (aa:x.fake<1000000):
 Calls prog 140 #[(gt,())] w
  (ρ (x.fake+1:Int) λw'=>sZ B F gt (gf,()) {x with full:=true,fake:=x.fake+1} T w w'):=by
 have H:=za h;have u:Hid (0<=x.fake/\x.fake<1000000):=⟨h.fake.1,aa⟩;obtain⟨Y,gn,cn,X,Q,P,E,pl,z⟩:=h.lies;have HL:=za z;obtain⟨⟨gl,ai,af,bt,bh,E',tl,FD,U,f2,_⟩,_,_,_,_,V,O,_⟩:=hf;have HK:Hid (64<=s.k/\s.k<=256):=⟨V,O⟩;obtain⟨c0,_⟩:=nw z.row;have Z:w.cell? (gf,0)=some (.pointer (some a)):=(xQ _ _ 0 _ _ _ U).trans (rP _ _ _ _ _ _ _ 0 (by omega));have HD:=za f2;have N:=xX c0;have J:=xX Z;obtain⟨A,I⟩:=zA (encF x.fo);have L:Hid (A.size=192):=by rw[I.o];exact vX _
 obtain⟨S,HS⟩:=zA (enc (sV x.fo 4));have G:Hid (∀W,Calls prog 181 #[.agg A] W (κ W (.agg S))):=λW=>by rw[I.o,HS.o];exact Mg x.fo W
 have M:Hid (∀W,Calls prog 182 #[.agg S,(37:Int),s.k] W (κ W (.tuple #[(),(6:Int)]))):=λW=>by rw[HS.o];have:=HK.o;exact XH (sV x.fo 4) 37 s.k W (by omega) (by omega) (by omega) (by omega) (λm h1 h2 _=>hn m (by omega) (by omega))
 obtain⟨R,y⟩:=zD (txR (gf,()) x.fo Y (.slice (some ⟨gn,0,none⟩) 32 cn) (.map (some X)) (.map (some Q)) P x.full x.fake);have C:Hid (∀j,j<A.size->R[1+j]?=A[j]?):=by rw[<-y.o,I.o];exact PC _ _ _ _ _ _ _ _ _
 have f:=z.row;rw[y.o]at f;have g:=za f;have v:Hid (R[198]?=some (.bool x.full)/\R[199]?=some (.int .i64 x.fake)):=by show _/\_;rw[<-y.o];exact⟨mS _ _ _ _ _ _ _ _ _ 198 (by omega),mS _ _ _ _ _ _ _ _ _ 199 (by omega)⟩
 have l:Hid ((R.setIfInBounds 198 (.bool true)).setIfInBounds 199 (.int .i64 (x.fake+1))=txR (gf,()) x.fo Y (.slice (some ⟨gn,0,none⟩) 32 cn) (.map (some X)) (.map (some Q)) P true (x.fake+1)):=by show _=_;rw[<-y.o];exact Kj _ _ _ _ _ _ _ _ _ _ _
 clear h z U f2 V O hn c0 Z f;go_enter func140,ntmps140;go_wp2_with fail
 refine vg (by kernel_rfl) (by kernel_rfl) ?_
 repeat (first
  | go_big_quiet_skip
  | (refine ou rfl 85 (.tmp 8) rfl gt 1 rfl 92 R A (0,0) _ (λ_ K=>qy K g.o) C.o forT rfl (by rw[L.o];exact forI) ?_;simp only[Act.put,zP,yf,yb])
  | (refine sG 181 #[.tmp 9] #[85] rfl rfl (λ_ _=>by kernel_rfl) #[.agg A] (by kernel_rfl) (.agg S) (λ_ _=>vY) (λw' _=>G.o w') ?_;simp only[Act.put,zP,yf,yb])
  | (refine sG 77 #[.tmp 17] #[26] rfl rfl (λ_ _=>by kernel_rfl) #[a] (by kernel_rfl) (.int .i64 (s.k:Int)) (λ_ _=>vY) (λw' K=>(jm (HD.o.below (us K))).mono λe w2 ⟨he,D⟩=>⟨he,D▸zB⟩) ?_;simp only[Act.put,zP,yf,yb])
  | (refine sG 182 #[.tmp 10,.const (.int .i64 37),.tmp 18] #[81,3,3] rfl rfl (λ_ _=>by kernel_rfl) #[.agg S,(37:Int),s.k] (by kernel_rfl) (.tuple #[(),(6:Int)]) (λ_ _=>vY) (λw' _=>M.o w') ?_;simp only[Act.put,zP,yf,yb])
  | (go_big_quiet_want;go_big_quiet_op;go_big_quiet_on))
 refine vn ?_;intro n t;have r:=za (us t);have d:=za (xV r.o g.o);clear N J t;have z8:n.frozen? (gt,198)=false:=zF d.o;have y8:=(zC d.o).trans v.o.1;have b:(n.setCell (gt,198) (.bool true)).heap[gt]?=some (.cells (R.setIfInBounds 198 (.bool true)) 92):=zT _ _ 198 _ _ _ d.o;have z9:(n.setCell (gt,198) (.bool true)).frozen? (gt,199)=false:=zF b;have y9:(n.setCell (gt,198) (.bool true)).cell? (gt,199)=some (.int .i64 x.fake):=(zC b).trans (by rw[yH,zb (by omega)];exact v.o.2);have c:((n.setCell (gt,198) (.bool true)).setCell (gt,199) (.int .i64 (x.fake+1))).heap[gt]?=some (.cells ((R.setIfInBounds 198 (.bool true)).setIfInBounds 199 (.int .i64 (x.fake+1))) 92):=zT _ _ 199 _ _ _ b;have ag:((n.setCell (gt,198) (.bool true)).setCell (gt,199) (.int .i64 (x.fake+1))).cell? (gt,199)=some (.int .i64 (x.fake+1)):=(zC c).trans (by rw[l.o];exact mS _ _ _ _ _ _ _ _ _ 199 (by omega));have q:=za c;have i1:IntKind.i64.wrap (x.fake+1)=x.fake+1:=zM _ (by have:=u.o;omega);clear b c;go_wp2;go_ret;have hk:yK (λi=>i=gt) w ((n.setCell (gt,198) (.bool true)).setCell (gt,199) (.int .i64 (x.fake+1))):=((yK.of_below r.o).step (yK.setCell (F:=λi=>i=gt) (p:=⟨gt,198,none⟩) rfl _)).step (yK.setCell (F:=λi=>i=gt) (p:=⟨gt,199,none⟩) rfl _);refine⟨rfl,HL.o.withFull H.o hk ?_ (by have:=u.o;omega)⟩;rw[q.o,l.o]
theorem Ud {x:Tx} (h:TxAt w B F gt (gf,()) x T) (f:FsAt w gf s F1 a) (d:x.fake<1000000):
 Calls prog 140 #[(gt,())] w
  (ρ (.int .i64 (qz x.ow s.k).1) λw'=>sZ B F gt (gf,()) (x.wow (qz x.ow s.k).2) T w w'):=by
 have c:x.ow.fo=x.fo:=rfl;unfold qz;rw[c];cases b:pM x.fo s.k with
 | some n=>exact Ke h f n (o8 b)
 | none=>exact Em h f (j0 b) d
def cutF (f:Fo):Fo:=⟨f.nd,λk n=>decide (n<256)&&f.hs k n⟩
theorem Fq (f):encF (cutF f)=encF f:=by
 unfold encF
 congr 1
 funext i
 have b:=qf i.val (show 48 > 0 by omega);unfold nu;split
 .rfl
 .rw[show sg ((cutF f).hs (i.val / 48)) (i.val%48-16)=sg (f.hs (i.val / 48)) (i.val%48-16) from qI λj a=>by show (decide _&&_)=_;rw[zX (by omega),Nq]]
theorem lC (f) (n:Nat) (b:256<=n) (w):
 Calls prog 141 #[.agg (encF f),n] w (κ w (.bool false)):=by
 have a:∀k,(cutF f).hs k n=false:=λk=>by show (decide _&&_)=_;rw[zJ (by omega)];rfl
 have:=K4 (cutF f) _ rfl n (zw a) w;rw[Fq,jx]at this;simp only[a,Bool.and_false,Bool.or_false]at this;exact this
theorem Kn {x:Tx} (hf:FsAt w0 gf s F1 a) (hb:Below w0 w0 w) (h:TxAt w w0 F gt (gf,()) x T) (ah:x.fake<1000000) (p) (hp:0<=p/\p<=1000000):
 Calls prog 100 #[(gt,()),(p:Int)] w
  (ρ (.int .i64 (ownU x.ow s.k p).1) λw'=>sZ w0 F gt (gf,()) (x.wow (ownU x.ow s.k p).2) T w w'):=by
 obtain⟨n,rfl⟩:=xP hp.1;by_cases ab:n=0
 .subst ab;have HC:=za (Ud h (hf.below hb) ah);clear h hf hp ah hb;go_enter func100,ntmps100;go_wp2_with fail
  refine HC.o.mono ?_;rintro e w' ⟨rfl,b⟩;have H2:=za b;clear b;go_wp2;go_ret;exact⟨rfl,H2.o⟩
 have H:=za h;have Y:Hid (∀(W) (D),D.fake<1000000->sZ w0 F gt (gf,()) D T w W->Calls prog 140 #[(gt,())] W
  (ρ (.int .i64 (qz D.ow s.k).1) λw'=>sZ w0 F gt (gf,()) (D.wow (qz D.ow s.k).2) T w w')):=λW D h1 hd=>by
  obtain⟨T1,t1,t2,t3,t4⟩:=id hd;refine (Ud t1 (hf.below (hd.old hb h)) h1).mono λe w' ⟨a1,a3⟩=>⟨a1,?_⟩;obtain⟨T2,u1,u2,u3,u4⟩:=a3;refine⟨T2,u1,λi y=>?_,t3.trans u3 t2,λi y=>u4 i (t4 i y)⟩;rcases u2 i y with y|y
  .exact t2 i y
  .exact zw (zv t3.size y)
 have aa:=za ah;obtain⟨rv,gn,cn,gd,gp,gv,E,pl,hl⟩:=h.lies;have HL:=za hl;obtain⟨A,S⟩:=zA (encF x.fo);have ai:Hid (A.size=192):=by rw[S.o];exact vX _
 obtain⟨z,Q⟩:∃z,Hid ((z=true/\uF x.fo 4 n=true/\n<256)\/(z=false/\(uF x.fo 4 n=false\/256<=n))):=by
  by_cases c:n<256
  .cases hq:uF x.fo 4 n with
   | true=>exact⟨true,zu ⟨rfl,rfl,c⟩⟩
   | false=>exact⟨false,zw ⟨rfl,zu rfl⟩⟩
  .exact⟨false,zw ⟨rfl,zw (by omega)⟩⟩
 have af:Hid (∀W,Calls prog 141 #[.agg A,n] W (κ W (.bool z))):=λW=>by
  rw[S.o];by_cases c:n<256
  .have:=Ky x.fo n c W;rcases Q.o with⟨rfl,b,_⟩|⟨rfl,b⟩
   .rw[b]at this;exact this
   .rw[b.resolve_right (by omega)]at this;exact this
  .rcases Q.o with⟨_,_,b⟩|⟨rfl,_⟩
   .omega
   .exact lC x.fo n (by omega) W
 obtain⟨R,N⟩:=zD (txR (gf,()) x.fo rv (.slice (some ⟨gn,0,none⟩) 32 cn) (.map (some gd)) (.map (some gp)) gv x.full x.fake);have V:Hid (R.size=200):=by show _=_;rw[<-N.o];exact qB _ _ _ _ _ _ _ _ _
 have ac:Hid (∀j,j<A.size->R[1+j]?=A[j]?):=by rw[<-N.o,S.o];exact PC _ _ _ _ _ _ _ _ _
 obtain⟨C,u⟩:=zA (enc (x.fo.hs 0));have I:Hid (C.size=32):=by rw[u.o];exact tO _
 have U:Hid (∀j,j<C.size->R[17+j]?=C[j]?):=by rw[<-N.o,u.o];exact lJ _ _ _ _ _ _ _ _ _
 obtain⟨B,m⟩:=zA (enc (del (x.fo.hs 0) n));have r:Hid (B.size=32):=by rw[m.o];exact tO _
 have M:Hid (B.all (·.oneCell')=true):=by rw[m.o];exact Zx _
 have ae:Hid (n<256->∀W,Calls prog 101 #[.agg C,n] W (κ W (.agg B))):=λc W=>by have:=l7 (x.fo.hs 0) (n:Int) W (by omega) (by omega);rw[yQ]at this;rw[u.o,m.o];exact this
 obtain⟨O,J⟩:=zD (txR (gf,()) (hasF x.fo (del (x.fo.hs 0) n)) rv (.slice (some ⟨gn,0,none⟩) 32 cn) (.map (some gd)) (.map (some gp)) gv x.full x.fake);have ad:Hid ((R.toList.take 17++B.toList++R.toList.drop (17+B.size)).toArray=O):=by rw[<-N.o,m.o,<-J.o];exact QV _ _ _ _ _ _ _ _ _ _
 have l:=hl.row;rw[N.o]at l;have q:=za l;have G:Hid ((n:Int)≠0):=za (by omega);have b0:(n==0)=false:=by simp;omega
 have b1:((n:Int)==0)=false:=by simp;omega
 have b2:¬n=0:=by omega
 clear h hl hf hp ah l hb;go_enter func100,ntmps100;go_wp2_with (refine uU (by kernel_rfl) 85 (.tmp 11) rfl gt 1 rfl 92 R A (0,0) _ q.o ac.o forT rfl (by rw[ai.o];exact forI) ?_)
 refine (af.o w).mono ?_;cases z with
 | false=>
  rintro e w' ⟨rfl,hb⟩;have HB:=za hb;clear hb;go_wp2;go_ret;have e:ownU x.ow s.k n=((n:Int),x.ow):=by
   unfold ownU;rw[zb G.o,zb];rintro ⟨h1,b⟩;rw[yQ]at b;rcases Q.o with⟨h0,_⟩|⟨_,P⟩
   .cases h0
   .rcases P with P|P
    .rw[show x.ow.fo=x.fo from rfl,P]at b;cases b
    .omega
  rw[e];exact⟨rfl,sZ.same H.o HB.o⟩
 | true=>
  rintro e w1 ⟨rfl,hb⟩;have L:=za hb;have f:=za (xV L.o q.o);have v:Hid (uF x.fo 4 n=true/\n<256):=by
   rcases Q.o with⟨_,b⟩|⟨h0,_⟩
   .exact b
   .cases h0
  clear hb;go_wp2_with fail
  refine fF 13 (by kernel_rfl) (by kernel_rfl) ?_;simp only[vu,xH,vv,vy]
  repeat (first
   | go_big_quiet_skip
   | (refine ou rfl 81 (.tmp 20) rfl gt 17 rfl 92 R C (0,0) _ (λ_ hw=>qy hw f.o) U.o setT rfl (by rw[I.o];exact setI) ?_;simp only[Act.put,zP,yf,yb])
   | (refine sG 101 #[.tmp 21,.tmp 22] #[81,3] rfl rfl (λ_ _=>by kernel_rfl) #[.agg C,n] (by kernel_rfl) (.agg B) (λ_ _=>vY) (λw' _=>ae.o v.o.2 w') ?_;simp only[Act.put,zP,yf,yb])
   | (go_big_quiet_want;go_big_quiet_op;go_big_quiet_on))
  refine vn ?_;intro w2 t;have Z:=za (zi L.o (us t));have g:=za (xV (us t) f.o);clear t;go_wp2_with (refine rT rfl 81 (.tmp 27) (.tmp 23) rfl gt 17 B rfl rfl 92 R O g.o (by rw[r.o];exact setI) (by rw[r.o,V.o];omega) M.o ad.o ?_)
  have d:(w2.setRow gt O).heap[gt]?=some (.cells O 92):=ya _ _ _ _ _ _ g.o;have K:=HL.o.putHas H.o _ ((yK.of_below Z.o).step (yK.setRow (F:=λi=>i=gt) rfl _)) (by rw[J.o];exact d);have e:ownU x.ow s.k n=qz ({x with fo:=hasF x.fo (del (x.fo.hs 0) n)}).ow s.k:=by unfold ownU;rw[zb G.o,ze ⟨by have:=v.o.2;omega,by rw[yQ];exact v.o.1⟩,yQ];rfl
  refine (Y.o _ {x with fo:=hasF x.fo (del (x.fo.hs 0) n)} aa.o K).mono ?_;have HE:=za e;clear e;rintro e w4 ⟨rfl,b⟩;have X:=za b;clear b K d;go_wp2;go_ret;rw[HE.o];exact⟨rfl,X.o⟩
theorem Jt {o:Ow} {p':Int} {o':Ow} (h:ownU o k p=(p',o')) (f:k<=256) (g:0<=p/\p<=1000000) (e:0<=o.fk/\o.fk<=1000000):0<=p'/\p'<=1000001/\o.fk<=o'.fk/\o'.fk<=o.fk+1:=by
 have a:∀(o) (p') (o'),0<=o.fk/\o.fk<=1000000->qz o k=(p',o')->0<=p'/\p'<=1000001/\o.fk<=o'.fk/\o'.fk<=o.fk+1:=by
  intro o p' o' e h;unfold qz at h;cases d:pM o.fo k with
  | none=>
   rw[d]at h;injection h with c b;subst c b;show _/\_/\o.fk<=o.fk+1/\o.fk+1<=o.fk+1;omega
  | some n=>
   rw[d]at h;injection h with c b;subst c b;have:=(o8 d).2.1;show _/\_/\o.fk<=o.fk/\o.fk<=o.fk+1;omega
 unfold ownU at h;split at h
 .exact a _ _ _ e h
 .split at h
  .exact a {o with fo:=hasF o.fo (del (o.fo.hs 0) p.toNat)} _ _ e h
  .injection h with c b;subst c b;omega
theorem Oo {x:Tx} (hf:FsAt w0 gf s F1 a) (hb:Below w0 w0 w) (h:TxAt w w0 F gt (gf,()) x T) (gb) (X:Pn) (q) (n c)
 (hr:w.heap[gb]?=some (.cells #[X.k,X.m,X.u,X.g,X.s,X.l,X.up,.slice q n c] 102)) (hX:tP w (.slice q n c) X.P) (am:F gb/\¬T gb/\w0.heap.size<=gb)
 (k) (hk:k<X.P.length) (aD:X.P.length<=8) (a4:x.fake<1000000) (a5:0<=X.P[k]/\X.P[k]<=1000000) p' (o') (ho:ownU x.ow s.k X.P[k]=(p',o')) (v) (D) (hv:js w w0 v D) (hvT:∀b,v.ownBlock=some b->¬T b) (hpl:x.put.length<900):
 Calls prog 73 #[(gt,()),.pointer (some ⟨gb,0,none⟩),(k:Int),v] w
  (ρ (.tuple #[]) λw'=>∃T' g' c',TxAt w' w0 F gt (gf,()) {x.wow o' with put:=putZ x.put p' D} T'/\(∀i,T' i->T i\/w.heap.size<=i)/\(∀i,T i->T' i) /\
   yK (λi=>T i\/i=gb) w w'/\w'.heap[gb]?=some (.cells #[X.k,X.m,X.u,X.g,X.s,X.l,X.up,(g',0,X.P.length,c')] 102) /\
   (w.heap.size<=g'/\¬T' g'/\X.P.length<=c')/\∃cu,w'.heap[g']?=some (.cells cu 3)/\cu.toList.take X.P.length=ints (X.P.set k p')):=by
 have H:=za h;have HF:=za hf;have b9:=za hb;have HO:=za ho;have HV:=za hv;have aT:=za hvT;have HX:=za hX;have HR:=za hr;have c7:=(ug hr).2.2.2.2.2.2.2;have f7:w.frozen? (gb,7)=false:=zF hr;have aI:=xB hr;have a9:=za (mK (q,n,c) X.P w hX (by omega));clear ho hv hX;go_enter func73,ntmps73;go_wp2_with fail
 refine a9.o.mono ?_;intro e w1 a3;obtain⟨v1,rfl,az,B,_⟩:=a3;obtain⟨_,⟨bs,h0⟩|⟨d,c1,Q,rfl,af,ad,al,aW,a2,S⟩⟩:=id az
 .omega
 obtain⟨N,HN⟩:=zD X.P.length;have aQ:k<N:=by rw[<-HN.o];exact hk
 have bg:k<(N:Int):=by omega
 rw[HN.o]at al S |-;have b2:=za B;have H1:=za (h.grow B d af);have ab:=za (xV B hr);have d7:=(B.cell (p:=⟨gb,7,none⟩) aI).trans c7;have e7:w1.frozen? (gb,7)=false:=zF ab.o;have aa:gb≠d:=by omega
 have b0:=za ad;obtain⟨j,G⟩:=zD (w1.setCell (gb,7) (d,0,N,c1));have aj:Hid (yK (λi=>i=gb) w j):=by show _;rw[<-G.o];exact (yK.of_below B).step (yK.setCell (F:=λi=>i=gb) (p:=⟨gb,7,none⟩) rfl _)
 have ao:Hid (TxAt j w0 (λi=>F i\/i=d) gt (gf,()) x T):=by show _;rw[<-G.o];exact H1.o.local (zu am.1) am.2.1 ab.o (by decide) (yK.setCell (F:=λi=>i=gb) (p:=⟨gb,7,none⟩) rfl _)
 have K:=za (hb.trans (aj.o.to_below (λi z=>by rw[z];exact am.2.2) hb.size));have bB:=za (hf.below K.o);have ae:Hid (j.heap[gb]?=some (.cells #[X.k,X.m,X.u,X.g,X.s,X.l,X.up,(d,0,N,c1)] 102)):=by show _=_;rw[<-G.o];exact zT _ _ 7 _ _ _ ab.o
 have J:Hid (j.heap[d]?=some (.cells Q 3)):=by show _=_;rw[<-G.o];exact (yj _ _ _ _ (yA aa)).trans ad
 have n7:=(ug ae.o).2.2.2.2.2.2.2;obtain⟨y,Hy⟩:=zD (X.P[k]' hk);have nk:j.cell? (d,k)=some (.int .i64 y):=by
  rw[zC J.o,<-zK];have h3:(Q.toList.take (N*1))[k]?=(ints X.P)[k]? :=by rw[S]
  rw[zI,ze (by omega),pQ X.P k hk,Hy.o]at h3;exact h3
 have fk:j.frozen? (d,k)=false:=zF J.o;have av:Hid (ownU x.ow s.k y=(p',o')):=by show _;rw[<-Hy.o];exact HO.o
 obtain⟨bD,b5,_⟩:=Jt av.o HF.o.k1 (by rw[<-Hy.o];exact a5) (⟨H.o.fake.1,Int.le_of_lt a4⟩:0<=x.fake/\x.fake<=1000000);have aS:=za S;have M:Hid (N<=c1/\Q.size=c1*1/\w.heap.size<=d):=⟨al,a2,af⟩;clear az B ad S al aW a2 af a9
 go_upto_region 1 with fail
 rw[G.o];have a6:Hid (∀W,Below j j W->Calls prog 100 #[(gt,()),y] W
  (ρ p' λw'=>sZ w0 (λi=>F i\/i=d) gt (gf,()) (x.wow o') T W w')):=λW U=>by
  have:=Kn HF.o (K.o.trans (U.mono K.o.size)) (ao.o.below U) a4 y (by rw[<-Hy.o];exact a5);rw[av.o]at this;exact this
 have f:Hid (¬T gb/\¬T d/\gb<j.heap.size/\d<j.heap.size):=⟨am.2.1,λL=>by have:=ao.o.fin d L;have h2:=h.fin d L;have h3:=M.o.2.2;omega,xB ae.o,xB J.o⟩;have HS:∀W,(∃W0,Below j j W0/\yK T W0 W)->(W.cell? (gb,7)=some (.slice (some ⟨d,0,none⟩) N c1)/\W.cell? (d,k)=some (.int .i64 y)/\W.frozen? (d,k)=false):=λW ⟨W0,U,hk⟩=>
  ⟨(
   (hk.cell (zr f.o.2.2.1 U.size) f.o.1).trans (U.cell (p:=⟨gb,7,none⟩) f.o.2.2.1)).trans n7,((hk.cell (zr f.o.2.2.2 U.size) f.o.2.1).trans (U.cell (p:=⟨d,k,none⟩) f.o.2.2.2)).trans nk,
   zF ((hk.block d (zr f.o.2.2.2 U.size) f.o.2.1).trans (xV U J.o))⟩
 have ak:=za HS;have m0:=ak.o j.drew ⟨j.drew,zB.drew,yK.refl _ _⟩;clear HS c7 f7 d7 e7
 go_cut [0,1,2,3] (λs0 s1 s2 s3 wx=>s0=.pointer (some ⟨gt,0,none⟩)/\s1=.pointer (some ⟨gb,0,none⟩)/\s2=.int .i64 (k:Int)/\s3=v/\∃W,Hid (sZ w0 (λi=>F i\/i=d) gt (gf,()) (x.wow o') T j.drew W)/\Hid (wx=W.setCell (d,k) (.int .i64 p')))
 case first=>
  go_region_with (first
   | (go_at_call 100;go_loud ((with_reducible refine (a6.o j.drew zB.drew).mono ?_);(rintro e w3 ⟨rfl,ac⟩);(obtain⟨bp,bq,bo⟩:=ak.o w3 ⟨j.drew,zB.drew,ac.choose_spec.2.2.1⟩);(have aJ:=za ac);clear ac)))
  all_goals
   go_wp2_with fail
   go_meet
   case rel=>exact⟨rfl,rfl,rfl,rfl,_,aJ,rfl⟩
 case rest=>
  obtain⟨rfl,rfl,rfl,rfl,W,⟨T',t1,t2,t3,t4⟩,R⟩:=hcut;have ap:=za t1;have I:¬T' gb/\¬T' d:=⟨λL=>(t2 gb L).elim f.o.1 (λC=>yi C (tC f.o.2.2.1)),λL=>(t2 d L).elim f.o.2.1 (λC=>yi C (tC f.o.2.2.2))⟩;have O:=(t3.block d f.o.2.2.2 f.o.2.1).trans J.o;have a0:=(t3.block gb f.o.2.2.1 f.o.1).trans ae.o;have aq:Hid (TxAt wc w0 (λi=>F i\/i=d) gt (gf,()) (x.wow o') T'):=by show _;rw[R.o];exact ap.o.local (zw rfl) I.2 O (by decide) (yK.setCell (F:=λi=>i=d) (p:=⟨d,k,none⟩) rfl _)
  have be:=xB O;obtain⟨V,ax⟩:=zD (Q.setIfInBounds k (.int .i64 p'));have ay:Hid (wc.heap[d]?=some (.cells V 3)):=by show _=_;rw[R.o,<-ax.o];exact zT _ _ k _ _ _ O
  have aw:Hid (wc.heap[gb]?=some (.cells #[X.k,X.m,X.u,X.g,X.s,X.l,X.up,(d,0,N,c1)] 102)):=by show _=_;rw[R.o];exact (yj _ _ _ _ aa).trans a0
  have ar:Hid (V.toList.take N=ints (X.P.set k p')):=by show _=_;rw[<-ax.o];have C:=aS.o;rw[vB]at C;rw[Cf,List.take_set,C];unfold ints;rw[uk]
  have a7:Hid (yK (λi=>T i\/i=gb) w wc):=by show _;rw[R.o];have k1:yK (λi=>T i\/i=gb) w j:=aj.o.mono λi _ z=>zw z;have k2:yK (λi=>T i\/i=gb) j W:=(yK.of_below (zB.drew)).step (t3.mono λi _ z=>zu z);exact (k1.step k2).trans (yK.setCell (F:=λi=>i=d) (p:=⟨d,k,none⟩) rfl _) λi z=>zw (by rw[z];exact M.o.2.2)
  have ai:Hid ((∀i,T' i->T i\/w.heap.size<=i)/\∀i,T i->T' i):=⟨λi z=>(t2 i z).imp id (λC=>zv aj.o.size C),t4⟩;have an:=za I;obtain⟨rv,gn,cn,gd,gp,gv,E,pl,hl⟩:=aq.o.lies;obtain⟨_,_,_,_,Z,_⟩:=nw hl.row;have n7:=(ug aw.o).2.2.2.2.2.2.2;have nk:wc.cell? (d,k)=some (.int .i64 p'):=by rw[zC ay.o,<-zK];have h3:(V.toList.take N)[k]?=(ints (X.P.set k p'))[k]? :=(by rw[ar.o]);rw[zI,ze aQ,pQ _ k (by rw[xT];exact hk),List.getElem_set_self]at h3;exact h3
  have aY:=xX Z;have k7:=xX n7;have kk:=xX nk;have HL:=za hl;have aF:Hid (js wc w0 u3 D):=by
   obtain⟨g,aV,aH,z1,z2,z3,z4,Y,z6⟩:=HV.o;refine⟨g,aV,aH,z1,z2,z3,z4,(a7.o.block g (xB Y) (λhT=>?_)).trans Y,z6⟩;rcases hT with hT|hT
   .exact aT.o g (by rw[z1];rfl) hT
   .rw[hT,HR.o]at Y;injection Y with Y;injection Y with _ Y;exact yi Y (by decide)
  clear t1 t2 t3 t4 O a0 I hl Z n7 nk m0 a6 ak;go_wp2_with fail
  refine fF 12 (by kernel_rfl) (by kernel_rfl) ?_;simp only[vu,xH,vv,vy]
  repeat (first
   | go_big_quiet_skip
   | (go_big_quiet_want;go_big_quiet_op;go_big_quiet_on))
  refine vn ?_;intro w5 aN;have A:=za (us aN);have a8:=za (HL.o.puts.of_block (A.o.block _ HL.o.puts.lt));have b6:pl.length<900:=by rw[HL.o.secs.len];exact hpl
  go_wp2_with (at_mapUpdate;refine P4 _ rfl _ _ _ _ rfl 3 38 intT Qw gp pl p' u3 rfl a8.o (by omega) rfl rfl (by unfold InZ;omega) ?_;intro w6 aP aG)
  go_end0
  have ah:yK (λi=>i=gp) w5 w6:=yK.grown aG.grown (λr hr=>by injection hr with hr;exact hr.symm);have aK:=P8 aF.o λg cc _ L=>A.o.block g (xB L);have aM:=(HL.o.below A.o).putMap (aq.o.below A.o) p' u3 D aK ah aP (by show x.put.length<1000;omega);have a1:∀(b:Nat) (c) (t),wc.heap[b]?=some (.cells c t)->w6.heap[b]?=some (.cells c t):=λb c t L=>by have h5:=xV A.o L;exact (ah.block b (xB h5) (xM h5 a8.o)).trans h5
  refine⟨rfl,T',aM.outer (λi _ z=>zu z),ai.o.1,ai.o.2,?_,d,c1,?_,⟨M.o.2.2,an.o.2,?_⟩,V,a1 d _ _ ay.o,?_⟩
  .refine (a7.o.step (yK.of_below A.o)).trans ah λi z=>?_;rcases ai.o.1 gp HL.o.tp with C|C
   .exact zu (zu (by rw[z];exact C))
   .exact zw (by rw[z];exact C)
  .rw[HN.o];exact a1 gb _ _ aw.o
  .rw[HN.o];exact M.o.1
  .rw[HN.o];exact ar.o
def blkB (D:List Int) (i:Nat):List Int:=over (List.replicate 64 0) 0 (((D.drop (64*i))).take 64)
theorem iM (w) (dT sT ty elem) (h:P.underlying dT=some (.slice elem)) (f:(P.info? elem).map (·.size)=some 1) (g) (cur D) (t) (i:w.heap[g]?=some (.cells (u8s cur).toArray t (0,0))) (k:cur.length=64)
 (g' o' m c) (l:D.length=m) (n:∀(j) (x),(u8s D)[j]?=some x->w.cell? ⟨g',o'+j,none⟩=some x):
 (Builtin.copy_ #[dT,sT] ty #[.slice (some ⟨g,0,none⟩) 64 64,.slice (some ⟨g',o',none⟩) m c]).run P w=.ok (goInt (u8s (D.take 64)).length) (w.setRow g (u8s (over cur 0 (D.take 64))).toArray):=by
 have a:=tR (P:=P) w dT sT ty elem g 0 64 64 ⟨g',o',none⟩ m c (u8s cur).toArray t (u8s (D.take 64)) h f i (by rw[wd,Ni,l];exact Nat.min_comm 64 m) (λj v d=>by
  have b:(⟨g',o',none⟩:Addr).add j=⟨g',o'+j,none⟩:=by unfold Addr.add;split<;>simp_all
  rw[b];rw[ZP,zI]at d;split at d
  .exact n j v d
  .cases d) (by rw[yF,wd,Ni,show (u8s cur).toArray.size=64 by simp[wd,k]];exact Nat.min_le_left _ _) (gZ _)
 have e:((u8s cur).toArray.toList.take 0++u8s (D.take 64)++(u8s cur).toArray.toList.drop (0+(u8s (D.take 64)).length)).toArray=(u8s (over cur 0 (D.take 64))).toArray:=by unfold over;rw[pX,pX,xU,xH,xH,no,wd];rfl
 rw[e]at a;exact a
theorem kV (h:w.ownsRow B 3 1 v n xs) (b) (m:v.ownBlock=some b):∃cur,w.heap[b]?=some (.cells cur 3):=by
 obtain⟨_,⟨a,_⟩|⟨g,c,cur,a,j,d,l,i,k,f⟩⟩:=h
 .subst a;cases m
 .subst a;have e:g=b:=by simpa[Value.ownBlock]using m
  subst e;exact⟨cur,d⟩
theorem mV.addGone {x:Tx} (h:mV w B F T gt fp x rv gn cn gd gp gv E pl) (u:TxAt w B F gt fp x T) (p) (g' cap')
 (v:yK (λi=>i=gt\/gv.ownBlock=some i) w w') (z:w'.heap[gt]?=some (.cells (txR fp x.fo rv (.slice (some ⟨gn,0,none⟩) 32 cn) (.map (some gd)) (.map (some gp)) (.slice (some ⟨g',0,none⟩) (x.gone.length+1) cap') x.full x.fake) 92))
 (y:w'.ownsRow B 3 1 (.slice (some ⟨g',0,none⟩) (x.gone.length+1) cap') (x.gone.length+1) (ints (x.gone++[p]))) (A:gv.ownBlock=some g'\/w.heap.size<=g') (C:x.gone.length<1000):
 sZ B F gt fp {x with gone:=x.gone++[p]} T w w':=by
 have f:yK T w w':=v.mono λi _ c=>by
  rcases c with c|c
  .rw[c];exact u.self
  .exact h.tg i c
 have k:∀b,b<w.heap.size->b≠gt->gv.ownBlock≠some b->w'.heap[b]?=w.heap[b]? :=λb r q s=>v.block b r (λe=>e.elim q s);have n:∀i,(T i\/i=g')->T i\/w.heap.size<=i:=λi c=>by
  rcases c with c|rfl
  .exact zu c
  .exact A.imp (h.tg i) id
 have m:=(y.lt g' rfl).2;have l:=(y.lt g' rfl).1;refine⟨λi=>T i\/i=g',?_,n,f,λi c=>zu c⟩;refine mV.at (x:={x with gone:=x.gone++[p]}) (rv:=rv) (gn:=gn) (cn:=cn) (gd:=gd) (gp:=gp) (gv:=.slice (some ⟨g',0,none⟩) (x.gone.length+1) cap') (E:=E) (pl:=pl) ⟨z,kw h.rows f n,?_,iA h.nds f n,?_,?_,?_,h.ne,?_,zu h.tn,zu h.td,zu h.tp,λb d=>zw ?_⟩ (zu u.self) u.len (λi c=>?_) (λi c=>?_) ?_ u.put u.dirty u.rows u.fake
 .refine vE h.own λb d=>k b (h.own.lt b d).2 (tK h.own h.row (by decide) b d) λe=>?_;obtain⟨j,a⟩:=kV h.gone b e;exact tK h.own a (by decide) b d rfl
 .refine h.dirt.of_block (k gd h.dirt.lt (yA (xM h.row h.dirt)) λe=>?_);obtain⟨j,a⟩:=kV h.gone gd e;exact xM a h.dirt rfl
 .refine h.puts.of_block (k gp h.puts.lt (yA (xM h.row h.puts)) λe=>?_);obtain⟨j,a⟩:=kV h.gone gp e;exact xM a h.puts rfl
 .refine h.secs.keep λg t _ e=>k g (xB e) (ve e h.row (by decide)) λo=>?_;obtain⟨j,a⟩:=kV h.gone g o;exact ve e a (by decide) rfl
 .show w'.ownsRow B 3 1 _ (x.gone++[p]).length (ints (x.gone++[p]));rw[zl];exact y
 .simpa[Value.ownBlock,eq_comm]using d
 .rcases c with c|rfl
  .exact zr (u.fin i c) v.size
  .exact m
 .rcases c with c|rfl
  .exact u.new i c
  .exact l
 .show (x.gone++[p]).length<=1000;rw[zl];exact C
theorem KE {o:Ow} (e:k<=256) (c:256<=o.fk) (d:0<=p/\p<=o.fk):0<=(ownU o k p).1/\(ownU o k p).1<=(ownU o k p).2.fk/\o.fk<=(ownU o k p).2.fk/\(ownU o k p).2.fk<=o.fk+1:=by
 have a:∀o,256<=o.fk->0<=(qz o k).1/\(qz o k).1<=(qz o k).2.fk/\o.fk<=(qz o k).2.fk/\(qz o k).2.fk<=o.fk+1:=λo h=>by
  unfold qz;cases b:pM o.fo k with
  | none=>show 0<=o.fk+1/\o.fk+1<=o.fk+1/\o.fk<=o.fk+1/\o.fk+1<=o.fk+1;omega
  | some n=>
   have:=(o8 b).2.1;show 0<=(n:Int)/\(n:Int)<=o.fk/\o.fk<=o.fk/\o.fk<=o.fk+1;omega
 unfold ownU;split
 .exact a o c
 .split
  .exact a {o with fo:=hasF o.fo (del (o.fo.hs 0) p.toNat)} c
  .exact⟨d.1,d.2,Mr _,by show o.fk<=o.fk+1;omega⟩
structure Uw where
 ow:Ow
 put:List (Int×List Int)
 P:List Int
def wrU (k:Nat) (y:Uw) (i:Nat) (D:List Int):Uw:=⟨(ownU y.ow k (y.P.getD i 0)).2,putZ y.put (ownU y.ow k (y.P.getD i 0)).1 D,y.P.set i (ownU y.ow k (y.P.getD i 0)).1⟩
def o9 (k:Nat) (D:List Int) (y:Uw):Nat->Uw
 | 0=>y
 | i+1=>wrU k (o9 k D y i) i (blkB D i)
def UwIn (y:Uw):Prop:=(∀p∈y.P,0<=p/\p<=y.ow.fk)/\256<=y.ow.fk
theorem UwIn.at {y:Uw} (h:UwIn y) (i):0<=y.P.getD i 0/\y.P.getD i 0<=y.ow.fk:=by
 rw[zt];have:=h.2;cases a:y.P[i]? with
 | none=>exact⟨Mr _,by show (0:Int)<=_;omega⟩
 | some p=>exact h.1 p (wQ a)
theorem IB {y:Uw} (i) (D) (f:k<=256) (h:UwIn y):UwIn (wrU k y i D)/\(wrU k y i D).ow.fk<=y.ow.fk+1:=by
 obtain⟨a,b,c,d⟩:=KE f h.2 (h.at i);refine⟨⟨λp e=>?_,uP h.2 c⟩,d⟩;rcases ta e with e|rfl
 .exact⟨(h.1 p e).1,uP (h.1 p e).2 c⟩
 .exact⟨a,b⟩
theorem Ec (k) (y) (i) (D):(wrU k y i D).P.length=y.P.length/\(wrU k y i D).put.length<=y.put.length+1:=⟨xT ..,pT _ _ _⟩
theorem lH {k:Nat} {y:Uw} (D) (e:k<=256) (h:UwIn y):∀i,UwIn (o9 k D y i)/\(o9 k D y i).ow.fk<=y.ow.fk+i
 | 0=>⟨h,by show y.ow.fk<=_;omega⟩
 | i+1=>by obtain⟨a,b⟩:=lH D e h i;obtain⟨c,d⟩:=IB i (blkB D i) e a;exact⟨c,by show (wrU k (o9 k D y i) i (blkB D i)).ow.fk<=_;omega⟩
theorem U4 (k) (y) (D):∀i,(o9 k D y i).P.length=y.P.length/\(o9 k D y i).put.length<=y.put.length+i
 | 0=>⟨rfl,zL⟩
 | i+1=>by obtain⟨a,b⟩:=U4 k y D i;obtain⟨c,d⟩:=Ec k (o9 k D y i) i (blkB D i);exact⟨c.trans a,by show (wrU k (o9 k D y i) i (blkB D i)).put.length<=_;omega⟩
def Tx.fillX (x:Tx) (k i:Nat) (X:Pn) (D:List Int):Tx:=
 let m:=(D.length+63) / 64
 let y:=o9 k D ⟨x.ow,x.put,X.P.take m++List.replicate (m-X.P.length) 0⟩ m
 {x.wow y.ow with put:=y.put,nodes:=x.nodes.set i {X with P:=y.P,s:=D.length},dirty:=putZ x.dirty (i+1) (.bool true),gone:=x.gone++(X.P.drop m).reverse}
theorem TxAt.own {base:Nat} {x:Tx} (h:TxAt w B F gt fp x T) (j:w.ownsRow base 3 1 v n xs) (f:∀b,v.ownBlock=some b->F b/\¬T b) (g:yK (λr=>v.ownBlock=some r) w w'):TxAt w' B F gt fp x T:=by
 cases c:v.ownBlock with
 | none=>exact h.below (g.to_below (λi a=>by rw[c]at a;cases a) zL)
 | some b=>
  obtain⟨d,e⟩:=kV j b c;exact h.local (f b c).1 (f b c).2 e (by decide) (g.mono λi _ a=>by rw[c]at a;injection a with a;exact a.symm)
structure FG (w0 w:World) (F T:Nat->Prop) (gt gf gb:Nat) (x:Tx) (row:Array Value) (pv:Value) (wq:World):Prop where
 ex:∃T',TxAt wq w0 (λi=>F i\/w.heap.size<=i) gt (gf,()) x T'/\(∀i,T' i->T i\/w.heap.size<=i)/\(∀i,T i->T' i)/\¬T' gb/\∀b,pv.ownBlock=some b->w.heap.size<=b/\¬T' b
 row:wq.heap[gb]?=some (.cells row 102)
 keeps:yK T w wq
theorem ix {x:Tx} (hf:FsAt w0 gf s F1 a) (hb:Below w0 w0 w) (h:TxAt w w0 F gt (gf,()) x T) (hF:∀i,F i->i<w.heap.size)
 (i:Nat) (hi:i<32) (X) (hX:x.nodes[i]?=some X) (v) (D) (hv:mU w v D) (ai:∀b,v.ownBlock=some b->¬T b) (hD:D.length<=512) (ax:X.P.length<=8) (aj:∀p∈X.P,0<=p/\p<=x.fake) (al:256<=x.fake/\x.fake<900000) (aw:x.gone.length<=900) (ay:x.put.length<800) (az:x.dirty.length<900):
 Calls prog 112 #[(gt,()),(i+1:Int),v] w
  (ρ (.tuple #[]) λw'=>sZ w0 F gt (gf,()) (x.fillX s.k i X D) T w w'):=by
 have H:=za h;have HF:=za hf;have aq:=za hb;have HV:=za hv;have cX:=za ai;have cy:=za hF;have c6:=za aj;have bd:=za al;have cM:=za aw;obtain⟨K,HK⟩:=zD ((D.length+63) / 64);have ef:K<=8:=by rw[<-HK.o];omega
 have bx:=za (kN h i hi X hX);have bD:Hid (∀W,Calls prog 71 #[D.length] W λe w'=>e=.returned K/\W=w'):=λW=>by
  have:=P3 (D.length:Int) W (by omega) (by omega);have e:jy D.length=K:=by unfold jy;rw[<-HK.o];split<;>omega
  rw[e]at this;exact this
 obtain⟨nD,af⟩:=zD D.length;obtain⟨vp,vc,dd⟩:=Nv hv.1 nD af.o;subst dd;rw[af.o]at bD hD;clear h hf hb hv ai hF hX aj al aw;go_enter func112,ntmps112;go_wp2_with fail
 refine bx.o.mono ?_;rintro e w1 ⟨q,n,c,rfl,a0,cl⟩;have aL:=za cl;have ch:=za a0;clear cl a0 bx;go_wp2_with fail
 refine (bD.o _).mono ?_;rintro e w2 ⟨rfl,rfl⟩;obtain⟨d,bk⟩:=zD w1.heap.size;have bg:Hid (Below w w (w1.alloc (.cells #[X.k,X.m,X.u,X.g,X.s,X.l,X.up,(q,n,c)] 102))):=aL.o.alloc aL.o.size _;have aZ:Hid ((w1.alloc (.cells #[X.k,X.m,X.u,X.g,X.s,X.l,X.up,(q,n,c)] 102)).heap[d]?=some (.cells #[X.k,X.m,X.u,X.g,X.s,X.l,X.up,(q,n,c)] 102)):=by rw[<-bk.o];exact zH
 have bz:Hid (tP (w1.alloc (.cells #[X.k,X.m,X.u,X.g,X.s,X.l,X.up,(q,n,c)] 102)) (q,n,c) X.P):=uq.below ch.o.now (zB.alloc zL _);have ao:Hid (w.heap.size<=d):=by show _;rw[<-bk.o];exact aL.o.size
 rw[bk.o];generalize w1.alloc (.cells #[X.k,X.m,X.u,X.g,X.s,X.l,X.up,(q,n,c)] 102)=w2 at *
 have d6:=za (xB aZ.o);have c7:=(ug aZ.o).2.2.2.2.2.2.2;clear ch aL;go_wp2_with fail
 refine (mK (q,n,c) X.P w2 bz.o (by omega)).mono ?_;rintro e w3 ⟨v3,rfl,ak,aI,_⟩;have ak:=uR ak bg.o.size;have bV:TxAt w3 w0 (λi=>F i\/w.heap.size<=i) gt (gf,()) x T:=(H.o.outer λi hi hg=>hg.elim id λh=>yi h (tC hi)).below (zi bg.o aI);have aH:∀b,w.heap.size<=b->¬T b:=λb hb L=>yi (H.o.fin b L) (xn hb);have et:=za aH;obtain⟨q3,c3,bq,_⟩:=rU ak;subst bq;have an:Hid (FG w0 w F T gt gf d x #[X.k,X.m,X.u,X.g,X.s,X.l,X.up,(q,n,c)] (q3,X.P.length,c3) w3):=
  ⟨⟨T,bV,λi hi=>zu hi,λ_ hi=>hi,aH d ao.o,λb hb=>⟨(ak.lt b hb).1,aH b (ak.lt b hb).1⟩⟩,xV aI aZ.o,yK.of_below (zi bg.o aI)⟩
 have b4:=za ak;obtain⟨m,Hm⟩:=zD X.P.length;rw[Hm.o]at b4 an ax |-;obtain⟨Y,b5⟩:∃r:Array Value,Hid (#[.int .i64 X.k,.int .i64 X.m,.int .i64 X.u,.int .i64 X.g,.int .i64 X.s,.int .i64 X.l,.int .i64 X.up,.slice q n c]=r):=⟨_,rfl⟩;rw[b5.o]at an;obtain⟨xg,a4⟩:∃xg:Nat->Tx,Hid (∀n,xg n={x with gone:=x.gone++(X.P.drop n).reverse}):=⟨_,λ_=>rfl⟩;have bZ:xg m=x:=by rw[a4.o,<-Hm.o,List.drop_length,List.reverse_nil,yY]
 rw[<-bZ]at an;clear ak aI c7 bz bV aH bZ;go_wp2;obtain⟨i0,b2,cb,bI,bQ⟩:=yX kG;have ci:=za b2;have ca:=za cb;have bX:=za bI;have cf:=za bQ;clear b2 cb bI bQ;go_loopw [8] (λpv wr=>∃n:Nat,pv=.slice q3 n c3/\Hid (n<=m/\(K<=n\/n=m))/\Hid (FG w0 w F T gt gf d (xg n) Y pv wr)/\Hid (wr.ownsRow w 3 1 pv n (ints (X.P.take n)))) (λpv _=>lenV pv)
 .exact⟨m,rfl,⟨zL,zw rfl⟩,an,by show _;rw[zo (wZ Hm.o)];exact b4.o⟩
 .obtain⟨C,rfl,HN,aT,V⟩:=hrel;by_cases cQ:K<C
  .obtain⟨r,rfl⟩:∃r,C=r+1:=⟨C-1,by omega⟩;obtain⟨C,Hn⟩:=zD (r+1);rw[Hn.o]at HN aT V cQ |-;have cN:K<(C:Int):=(by omega);have ed:C-1=(r:Int):=(by have:=Hn.o;omega);have en:IntKind.i64.wrap r=r:=zM _ (by have:=Hn.o;have:=HN.o;omega);have cx:r<C:=(by have:=Hn.o;omega);have d1:r<(C:Int):=(by omega);have dn:r<=(C:Int):=(by omega);obtain⟨g3,dx,bq,d3,dw⟩:=V.o.form (by omega);injection bq with e1 e2 e3;subst e1 e3;clear e2;have bG:r<X.P.length:=(by rw[Hm.o];have:=HN.o;omega);obtain⟨p,Hp⟩:=zD (X.P[r]);have aQ:wr.cell? ⟨g3,r,none⟩=some (.int .i64 p):=by
    have:=V.o.cells (g:=g3) rfl r (.int .i64 p) (by unfold ints;rw[xE,zI,ze cx,zk bG,<-Hp.o];rfl);have bR:(⟨g3,0,none⟩:Addr).add r=⟨g3,r,none⟩:=by unfold Addr.add;split<;>simp_all
    rwa [bR]at this
   obtain⟨⟨T1,t1,t2,t3,t4,t5⟩,I,ac⟩:=aT.o;have aA:=za t1;have aa:Hid ((∀i,T1 i->T i\/w.heap.size<=i)/\(∀i,T i->T1 i)/\¬T1 d/\(∀b,(Value.slice (some ⟨g3,0,none⟩) C c3).ownBlock=some b->w.heap.size<=b/\¬T1 b)/\wr.heap[d]?=some (.cells Y 102)/\yK T w wr):=⟨t2,t3,t4,t5,I,ac⟩;obtain⟨G,ap⟩:∃z:Tx,Hid (xg C=z):=⟨_,rfl⟩;rw[ap.o]at aA;have dQ:G.gone.length<=920:=(by rw[<-ap.o,a4.o];have:=cM.o;show (x.gone++(X.P.drop C).reverse).length<=920;rw[zl,uJ,Nk,Hm.o];omega);have bH:xg r={G with gone:=G.gone++[p]}:=(by rw[<-ap.o,a4.o,a4.o,<-Hn.o,<-Hp.o,zR,<-wk,yR bG]);have db:=za bH;obtain⟨rv,gn,cn,gd,gp,gv,E,pl,hL⟩:=aA.o.lies;obtain⟨k0,dH,dO,dq,dr,dC,dv,dz⟩:=nw hL.row;have Q:=za hL;have di:=za (hL.below (NL (xW wr wr) 1));have cU:=zv aq.o.size ac.size;have cd:Hid (∀w5,(wr.drew.alloc (.cells #[p] 3)).grownBy w5 gv.ownBlock->yK (λr=>gv.ownBlock=some r) wr w5/\w5.heap[gt]?=wr.heap[gt]?):=λw5 dj=>(by have k1:=yK.grown dj λr J=>J;have k2:=(yK.of_below ((NL (xW wr wr) 1).alloc zL _)).step k1;refine⟨k2,k2.block gt (xB Q.o.row) λL=>?_⟩;obtain⟨aG,M⟩:=kV Q.o.gone gt L;exact ve Q.o.row M (by decide) rfl);have bM:Hid (∀(gg f) (w4),w4.ownsRow w0 3 1 (.slice (some ⟨gg,0,none⟩) (G.gone.length+1) f) (G.gone.length+1) (ints G.gone++[.int .i64 p])->(wr.drew.alloc (.cells #[p] 3)).grownBy w4 gv.ownBlock->(gv.ownBlock=some gg\/gg=wr.heap.size+1) ->
    FG w0 w F T gt gf d (xg r) Y (g3,0,r,c3) (w4.setCell (gt,197) (gg,0,(G.gone.length+1),f))/\(w4.setCell (gt,197) (gg,0,(G.gone.length+1),f)).ownsRow w 3 1 (g3,0,r,c3) r (ints (X.P.take r))):=λgg f w4 A B am=>by
    have au:=cd.o w4 B;have a6:yK (λr=>r=gt\/gv.ownBlock=some r) wr (w4.setCell (gt,197) (gg,0,(G.gone.length+1),f)):=(au.1.mono λi _ hi=>zw hi).step (yK.setCell (p:=⟨gt,197,none⟩) (zu rfl) _);have bB:gg≠gt:=λL=>(by subst L;obtain⟨aG,M⟩:=kV A gg rfl;exact ve (au.2.trans Q.o.row) M (by decide) rfl);have bF:(w4.setCell (gt,197) (gg,0,(G.gone.length+1),f)).heap[gt]?=some (.cells (txR (gf,()) G.fo rv (.slice (some ⟨gn,0,none⟩) 32 cn) (.map (some gd)) (.map (some gp)) (gg,0,(G.gone.length+1),f) G.full G.fake) 92):=(by rw[<-iz];exact zT _ _ 197 _ _ _ (au.2.trans Q.o.row));have cP:ints G.gone++[Value.int .i64 p]=ints (G.gone++[p]):=(by simp[ints]);have bA:sZ w0 (λi=>F i\/w.heap.size<=i) gt (gf,()) (xg r) T1 wr (w4.setCell (gt,197) (gg,0,(G.gone.length+1),f)):=(by rw[db.o];refine Q.o.addGone aA.o p gg f a6 bF ?_ (am.imp id λh=>by rw[h];omega) (by omega);rw[<-cP];have da:yK (λr=>r=gt) w4 (w4.setCell (gt,197) (gg,0,(G.gone.length+1),f)):=yK.setCell (F:=λr=>r=gt) (p:=⟨gt,197,none⟩) rfl _;exact vE A λb hb=>da.block b (A.lt b hb).2 (λL=>bB (by have e:gg=b:=(by simpa[Value.ownBlock]using hb);rw[e];exact L)));obtain⟨T2,u1,u2,u3,u4⟩:=bA;obtain⟨v2,v3,v4,v5,vR,vk⟩:=aa.o;have aB:∀b,(Value.slice (some ⟨g3,0,none⟩) r c3).ownBlock=some b->(w.heap.size<=b/\¬T1 b)/\b<wr.heap.size:=λb hb=>⟨v5 b hb,(V.o.lt b hb).2⟩;refine⟨⟨⟨T2,u1,λi hi=>?_,λi hi=>u4 i (v3 i hi),λL=>?_,λb hb=>⟨(aB b hb).1.1,λL=>?_⟩⟩,(u3.block d (xB vR) v4).trans vR,vk.trans u3 v2⟩,?_⟩
    .exact (u2 i hi).elim (v2 i) λh=>zw (zv vk.size h)
    .exact (u2 d L).elim v4 λh=>yi (xB vR) (xn h)
    .exact (u2 b L).elim (aB b hb).1.2 λh=>yi (aB b hb).2 (xn h)
    .have U:=iR V.o (m:=r) (by have:=Hn.o;omega);rw[we,Cg (by have:=Hn.o;omega)]at U;exact vE U λb hb=>u3.block b (aB b hb).2 (aB b hb).1.2
   have eg:r<=c3:=by
    obtain⟨_,⟨hv,_⟩|⟨g',d5,aG,hv,_,_,L,_⟩⟩:=id V.o
    .cases hv
    .cases hv;omega
   have dm:r<=(c3:Int):=(by omega);have kz:=xB Q.o.row;have kn:¬gt=wr.heap.size:=pg kz;have dc:=(V.o.lt g3 rfl).2;have eo:¬g3=wr.heap.size:=pg dc;clear hL t1 t2 t3 t4 t5 I ac bH;go_wp2
   go_region_law (first
    | (refine ut _ (by rfl) _ _ _ (by rfl) w0.heap.size 3 i0 (.int .i64 0) 1 8 qG ci.o ca.o bX.o cf.o rfl (by decide) gv G.gone.length (ints G.gone) (by rfl) (di.o.gone.alloc _) ⟨wr.heap.size,0,none⟩ 1 1 [.int .i64 p] (by rfl) (by rfl) (xF (cs:=#[.int .i64 p]) (t:=3) (fr:=(0,0)) (zO wr.drew _)) (by simp[Value.oneCell']) (by omega) (by unfold maxLen;omega) (by omega) (by simp;omega) (wr.heap.size+1) (by simp) ?_;intro gg f w4 a3 B am bf;have au:=cd.o w4 B;have cY:w4.frozen? (gt,197)=false:=zF (au.2.trans Q.o.row);have c8:=(nw (au.2.trans Q.o.row)).2.2.2.2.2.1;have HD:=za (bM.o gg f w4 a3 B am);clear a3 B am))
   all_goals
    go_wp2;go_roundw
    .exact⟨r,rfl,⟨by have:=HN.o;omega,zu (by omega)⟩,HD.o.1,HD.o.2⟩
    .simp[lenV];omega
  .have b1:Hid (C=min m K):=(by show C=_;have:=HN.o;omega);have cF:C<=K:=(by omega);have cN:¬(K<(C:Int)):=(by omega);obtain⟨G,ap⟩:∃z:Tx,Hid (xg C=z):=⟨_,rfl⟩;rw[ap.o]at aT;generalize wr=wg at *
   go_wp2;go_loopw [8] (λpv wq=>∃j:Nat,C<=j/\j<=K/\Hid (FG w0 w F T gt gf d G Y pv wq)/\Hid (wq.ownsRow w 3 1 pv j (ints (X.P.take C++List.replicate (j-C) 0)))) (λpv _=>K-lenV pv)
   .exact⟨C,zL,cF,aT,by rw[vQ,List.replicate_zero,yY];exact V⟩
   .obtain⟨j,dY,dU,bj,R⟩:=hrel;obtain⟨qj,cj,cK,_⟩:=rU R.o;subst cK;by_cases eq:j<K
    .have bJ:j<(K:Int):=(by omega);have b9:(ints (X.P.take C++List.replicate (j-C) 0))++[Value.int .i64 0]=ints (X.P.take C++List.replicate (j+1-C) 0):=(by rw[show j+1-C=(j-C)+1 by omega,sQ,<-zR];simp[ints]);have cR:=za b9;have bi:Below wr wr (wr.alloc (.cells #[()] 3)):=(xW wr wr).alloc zL _;have ck:=za (tt R.o bi);have cT:=za bj.o.keeps.size;have aR:=za bi;clear b9 bi;go_wp2_with (at_builtin;refine wpList_append_lies _ rfl _ _ 33 rfl w 3 i0 (.int .i64 0) 1 8 qG ci.o ca.o bX.o cf.o rfl (by decide) _ _ _ rfl ck.o ⟨wr.heap.size,0,none⟩ 1 1 [.int .i64 0] rfl rfl (xF (cs:=#[.int .i64 0]) (t:=3) (fr:=(0,0)) (zO wr _)) (by simp[Value.oneCell']) (by omega) (by unfold maxLen;omega) (by omega) (by have:=cT.o;simp;omega) (wr.heap.size+1) (by simp) ?_;intro g5 c5 w5 A B am bf)
     have dg:Hid (w5.ownsRow w 3 1 (g5,0,(j+1),c5) (j+1) (ints (X.P.take C++List.replicate (j+1-C) 0))):=(by show _;rw[<-cR.o];exact A);have c9:Hid (FG w0 w F T gt gf d G Y (g5,0,(j+1),c5) w5):=by
      obtain⟨⟨T1,t1,t2,t3,t4,t5⟩,I,ac⟩:=bj.o;have a6:yK (λr=>(Value.slice qj j cj).ownBlock=some r) (wr.alloc (.cells #[()] 3)) w5:=yK.grown B λr J=>J;have cC:∀b,(Value.slice qj j cj).ownBlock=some b->(F b\/w.heap.size<=b)/\¬T1 b:=λb hb=>⟨zw (R.o.lt b hb).1,(t5 b hb).2⟩;refine⟨⟨T1,(t1.below aR.o).own ck.o cC a6,t2,t3,t4,λb hb=>⟨(A.lt b hb).1,λL=>?_⟩⟩,(a6.block d (xB (xV aR.o I)) λL=>?_).trans (xV aR.o I),(ac.step (yK.of_below aR.o)).trans a6 λr J=>zw (R.o.lt r J).1⟩
      .injection hb with hb;have aK:g5=b:=hb;rcases am with U|U
       .exact (t5 b (aK▸U)).2 L
       .have:=t1.fin b L;omega
      .obtain⟨aG,M⟩:=kV R.o d L;exact ve I M (by decide) rfl
     clear A B am bf;go_wp2;go_roundw
     .exact⟨j+1,by omega,by omega,c9,dg⟩
     .simp[lenV];omega
    .obtain rfl:j=K:=(by omega);have bJ:¬(j<(j:Int)):=(by omega);obtain⟨⟨T1,t1,t2,t3,t4,t5⟩,I,ac⟩:=bj.o;have aA:=za t1;have aa:Hid ((∀i,T1 i->T i\/w.heap.size<=i)/\(∀i,T i->T1 i)/\¬T1 d/\(∀b,(Value.slice qj j cj).ownBlock=some b->w.heap.size<=b/\¬T1 b)/\yK T w wr):=⟨t2,t3,t4,t5,ac⟩;rw[<-b5.o]at I;have s4:=(ug I).2.2.2.2.1;have s7:=(ug I).2.2.2.2.2.2.2;have z4:wr.frozen? (d,4)=false:=zF I;have z7:wr.frozen? (d,7)=false:=zF I;have bn:=za I;have cG:Hid (X.P.take C++List.replicate (j-C) 0=X.P.take j++List.replicate (j-X.P.length) 0):=by
      show _=_;rw[Hm.o,b1.o];by_cases a7:m<=j
      .rw[Cg a7,zo (wZ Hm.o),zo (by rw[Hm.o];exact a7)]
      .rw[Nat.min_eq_right (by omega),vQ,Nat.sub_eq_zero_of_le (by omega)]
     rw[cG.o]at R;have ba:Hid (G={x with gone:=x.gone++(X.P.drop j).reverse}):=by
      show _=_;rw[<-ap.o,a4.o,b1.o];by_cases a7:m<=j
      .rw[Cg a7,yG (wZ Hm.o),yG (by rw[Hm.o];exact a7)]
      .rw[Nat.min_eq_right (by omega)]
     obtain⟨N,aF⟩:∃y:Uw,Hid (⟨x.ow,x.put,X.P.take j++List.replicate (j-X.P.length) 0⟩=y)   :=⟨_,za rfl⟩;have av:Hid (UwIn N/\N.P.length=j/\N.ow.fk<900000/\N.put.length<800):=by
      show _/\_;rw[<-aF.o];refine⟨⟨λp hp=>?_,bd.o.1⟩,?_,bd.o.2,ay⟩
      .rcases yN.1 hp with hp|hp
       .exact c6.o p (xI hp)
       .rw[(uX.1 hp).2];have:=bd.o.1;show (0:Int)<=0/\(0:Int)<=x.fake;omega
      .show (X.P.take j++List.replicate (j-X.P.length) 0).length=j;rw[zl,Ni,xt];omega
     have bU:N.P=X.P.take j++List.replicate (j-X.P.length) 0:=(by rw[<-aF.o]);rw[<-bU]at R;clear t1 t2 t3 t4 t5 I ac bU;go_wp2;have bo:yK (λi=>i=d) wr ((wr.setCell (d,7) (qj,j,cj)).setCell (d,4) (.int .i64 nD)):=(yK.setCell (F:=λi=>i=d) (p:=⟨d,7,none⟩) rfl _).step (yK.setCell (F:=λi=>i=d) (p:=⟨d,4,none⟩) rfl _);have c0:((wr.setCell (d,7) (qj,j,cj)).setCell (d,4) (.int .i64 nD)).heap[d]?=some (.cells #[X.k,X.m,X.u,X.g,nD,X.l,X.up,(qj,j,cj)] 102):=
      zT _ _ 4 _ _ _ (zT _ _ 7 _ _ _ bn.o)
     have ce:Hid (∃q' c',FG w0 w F T gt gf d {G.wow N.ow with put:=N.put} #[X.k,X.m,X.u,X.g,nD,X.l,X.up,.slice q' j c'] (.slice q' j c') ((wr.setCell (d,7) (qj,j,cj)).setCell (d,4) (.int .i64 nD))/\tP ((wr.setCell (d,7) (qj,j,cj)).setCell (d,4) (.int .i64 nD)) (.slice q' j c') N.P):=(by have hx:({G.wow N.ow with put:=N.put})=G:=(by rw[<-aF.o,ba.o];rfl);rw[hx];refine⟨qj,cj,⟨⟨T1,aA.o.local (zw ao.o) aa.o.2.2.1 bn.o (by decide) bo,aa.o.1,aa.o.2.1,aa.o.2.2.1,aa.o.2.2.2.1⟩,c0,aa.o.2.2.2.2.trans bo λi hi=>zw (by rw[hi];exact ao.o)⟩,?_⟩;have U:tP wr (qj,j,cj) N.P:=(by have:=uq.of_owns R.o;unfold tP;rw[av.o.2.1];exact this);exact Pd U λb hb hl=>bo.block b hl λL=>by obtain⟨aG,M⟩:=kV R.o b hb;exact ve bn.o (by rw[<-L];exact M) (by decide) rfl);generalize (wr.setCell (d,7) (qj,j,cj)).setCell (d,4) (.int .i64 (nD:Int))=w6 at *
     go_loopw [57] (λiv wq=>∃k:Nat,k<=j/\iv=.int .i64 k/\Hid (∃q' c',FG w0 w F T gt gf d {G.wow (o9 s.k D N k).ow with put:=(o9 s.k D N k).put} #[X.k,X.m,X.u,X.g,nD,X.l,X.up,.slice q' j c'] (.slice q' j c') wq/\tP wq (.slice q' j c') (o9 s.k D N k).P)) (λiv _=>j-(intOf iv).toNat)
     .exact⟨0,yh _,rfl,ce⟩
     .obtain⟨k,dW,rfl,bC⟩:=hrel;obtain⟨aO,a2⟩:=lH D HF.o.k1 av.o.1 k;obtain⟨aM,be⟩:=U4 s.k N D k;obtain⟨O,bp⟩:=zD (o9 s.k D N k);rw[bp.o]at aO a2 aM be bC;have b7:=aM.trans av.o.2.1;obtain⟨q',c',⟨⟨T',a9,t1,t2,t3,t4⟩,aJ,S⟩,aN⟩:=bC.o;by_cases dT:k<j
      .have aS:k<O.P.length:=(by omega);have bL:O.P.getD k 0=O.P[k]:=(by rw[zt,zk aS];rfl);obtain⟨p',o',A⟩:∃p' o',ownU O.ow s.k O.P[k]=(p',o'):=⟨_,_,rfl⟩;have dV:64*k<nD:=(by have:=HK.o;rw[af.o]at this;omega);have dD:=HV.o.2 _ _ _ rfl;obtain⟨_,⟨h0,_⟩|⟨gv,ov,cv,cE,bc⟩⟩:=id HV.o.1
       .have:=af.o;omega
       injection cE with e1 e2 e3;subst e1 e3;clear e2;have b0:gv<w.heap.size:=zy (bc 0 _ (Ch D 0 (by have:=af.o;omega)));obtain⟨Z,HZ⟩:=zA (List.replicate 64 (0:Int));have c1:∀W,(Instr.makeSlice 38 (.int .i64 64) (.int .i64 64)).run prog W=.ok (.slice (some ⟨W.heap.size,0,none⟩) 64 64) (W.alloc (.cells (u8s Z).toArray 5)):=λW=>(by rw[HZ.o];exact Mj 64 64 rfl (by omega) W);have bW:∀(r) (u),(u8s (D.drop (64*k)))[r]?=some u->(wr.alloc (.cells (u8s Z).toArray 5)).cell? ⟨gv,ov+64*k+r,none⟩=some u:=λr u J=>(by rw[no,yy]at J;have U:=bc (64*k+r) u J;rw[<-yp]at U;rw[xR _ _ _ (zr b0 S.size),S.cell b0 (cX.o gv rfl)];exact U);have aQ:=iM (P:=prog) (wr.alloc (.cells (u8s Z).toArray 5)) 38 38 3 5 u8sT ky wr Z (D.drop (64*k)) 5 (zO wr _) (by rw[HZ.o];simp) gv (ov+64*k) (nD-64*k) (vc-64*k) (by rw[Nk,af.o]) bW;obtain⟨W,HW⟩:=zD ((wr.alloc (.cells (u8s Z).toArray 5)).setRow wr (u8s (over Z 0 ((D.drop (64*k)).take 64))).toArray);rw[HW.o]at aQ;obtain⟨nc,cB⟩:=zD (goInt (u8s ((D.drop (64*k)).take 64)).length);rw[cB.o]at aQ;have ar:Below wr wr W:=(by rw[<-HW.o];exact xd (zB.alloc zL _) zL _);have bN:W.heap[wr.heap.size]?=some (.cells (u8s (blkB D k)).toArray 5 (0,0)):=(by rw[<-HW.o,show blkB D k=over Z 0 ((D.drop (64*k)).take 64) by rw[HZ.o];rfl];exact ya _ _ _ _ _ _ (zH));have ae:(blkB D k).length=64:=(by unfold blkB over;simp;omega);have aW:js W w0 (.slice (some ⟨wr.heap.size,0,none⟩) 64 64) (blkB D k):=⟨_,64,_,rfl,ae,zL,zv aq.o.size S.size,bN,by rw[zo (by rw[xU,wd,ae];exact zL)]⟩;have aV:=(aq.o.trans (S.to_below H.o.new aq.o.size)).trans (ar.mono (zv aq.o.size S.size));have bw:=za (Oo HF.o aV (a9.below ar) d {X with P:=O.P,s:=(nD:Int)} q' j c' (xV ar aJ) (uq.below aN ar) ⟨zw ao.o,t3,zv aq.o.size ao.o⟩ k aS (by show O.P.length<=8;omega) (by show O.ow.fk<1000000;have:=av.o.2.2.1;omega) (by
        have U:=aO.1 _ (Nj aS);have:=av.o.2.2.1;show 0<=O.P[k]/\O.P[k]<=1000000;omega) p' o' A _ (blkB D k) aW (λb hb L=>by
        injection hb with hb;have aK:wr.heap.size=b:=hb;have:=a9.fin b L;omega) (by show O.put.length<900;have:=av.o.2.2.2;omega))
       have ag:Hid (yK T w wr/\(∀i,T' i->T i\/w.heap.size<=i)/\(∀i,T i->T' i)/\¬T' d/\d<wr.heap.size):=⟨S,t1,t2,t3,xB aJ⟩;have br:=za ar;have cH:Hid (o9 s.k D N (k+1)=⟨o',putZ O.put p' (blkB D k),O.P.set k p'⟩):=(by show wrU s.k (o9 s.k D N k) k (blkB D k)=_;rw[bp.o];unfold wrU;rw[bL,A]);have bb:=za b7;have dR:=zW (64*k) (by omega);have d9:(64*k)<=(nD:Int):=(by omega);have em:64*k<=vc:=(by omega);have d7:¬vc=64*k:=(by omega);have dF:k<(j:Int):=(by omega);clear a9 t1 t2 t3 t4 aJ aN S A b7 aS bL bc bW ar bN ae aW aV aO a2 aM be;go_wp2_with fail
       refine bw.o.mono ?_;rintro e w7 ⟨rfl,T2,g2,c2,b6,u1,u2,u3,u4,⟨u5,u6,u7⟩,cL,cc,u9⟩;have cJ:Hid (∃q' c',FG w0 w F T gt gf d {G.wow (o9 s.k D N (k+1)).ow with put:=(o9 s.k D N (k+1)).put} #[X.k,X.m,X.u,X.g,nD,X.l,X.up,.slice q' j c'] (.slice q' j c') w7/\tP w7 (.slice q' j c') (o9 s.k D N (k+1)).P):=by
        rw[cH.o];obtain⟨v1,v2,v3,v4,v5⟩:=ag.o;have bO:=zv v1.size br.o.size;refine⟨some ⟨g2,0,none⟩,c2,⟨⟨T2,b6,λr J=>?_,λr J=>u2 r (v3 r J),λL=>?_,λb hb=>?_⟩,?_,?_⟩,?_⟩
        .rcases u1 r J with U|U
         .exact v2 r U
         .exact zw (zv bO U)
        .rcases u1 d L with U|U
         .exact v4 U
         .exact yi v5 (xn (zv br.o.size U))
        .injection hb with hb;have aK:g2=b:=hb;rw[<-aK];exact⟨zv bO u5,u6⟩
        .have:=u4;rw[show O.P.length=j from bb.o]at this;exact this
        .refine (v1.step (yK.of_below br.o)).trans u3 λr J=>?_;rcases J with J|J
         .exact v2 r J
         .exact zw (by rw[J];exact ao.o)
        .have b3:(O.P.set k p').length=j:=(by rw[xT,bb.o]);refine⟨by simp[ints,bb.o],zw ⟨g2,0,c2,by rw[b3],λr u J=>?_⟩⟩;rw[yF,zC cc,<-zK];have dh:r<O.P.length:=(by have:=(zG.1 J).1;simpa[ints]using this);have h3:(cL.toList.take O.P.length)[r]?=some u:=by rw[u9];exact J
         rwa [zI,ze dh]at h3
       clear b6 u1 u2 u3 u4 u5 u6 u7 cc u9 bw HW aQ c1;go_wp2;go_roundw
       .exact⟨k+1,by omega,by go_num,cJ⟩
       .simp[intOf];omega
      .obtain rfl:k=j:=(by omega);have a0:TQ (λr=>F r\/T' r) {X with P:=O.P,s:=nD} wr q' k c':=by
        refine Q3 aN λb hb bf hG=>?_;rcases hG with hG|hG
        .exact yi (cy.o b hG) (xn (t4 b hb).1)
        .exact (t4 b hb).2 hG
       have bT:=a9.outer λr _ J=>zu J;have cO:=za (Zi bT i hi {X with P:=O.P,s:=(nD:Int)} q' k c' a0 (by show G.dirty.length<900;rw[ba.o];exact az));have ag:Hid ((∀r,T' r->T r\/w.heap.size<=r)/\yK T w wr/\∀r,T r->T' r):=⟨t1,S,t2⟩;obtain⟨z0,z1,z2,z3,z4,z5,z6,z7⟩:=ug aJ;clear a9 t1 t2 t3 t4 aN S a0 bT aO a2 aM be;go_wp2_with fail
       refine cO.o.mono ?_;rintro e w7 ⟨rfl,T2,s1,s2,s3,s4⟩;have cS:=za s1;have bm:Hid ((∀r,T2 r->T r\/w.heap.size<=r)/\yK T w w7/\∀r,T r->T2 r):=⟨λr J=>(s2 r J).elim (ag.o.1 r) λh=>zw (zv ag.o.2.1.size h),ag.o.2.1.trans s3 ag.o.1,λr J=>s4 r (ag.o.2.2 r J)⟩;clear s1 s2 s3 s4;go_wp2;refine⟨rfl,.tuple #[],(by simp[results,results112,go_sem]),?_⟩;refine⟨rfl,T2,?_,bm.o.1,bm.o.2.1,bm.o.2.2⟩;have h9:=cS.o;rw[ba.o,<-bp.o,<-aF.o,<-af.o]at h9;unfold Tx.fillX;rw[HK.o];exact h9
def PtR (x:Tx) (s:Fs) (p:Int):Prop:=0<=p/\p<=1000000/\(p<s.k\/(getZ x.put p).isSome=true)
theorem YI {x:Tx} (h:TxAt w B F gt (gf,()) x T) (N:FsAt w gf s F1 a) (n:Nat) (M:PtR x s n):
 Calls prog 115 #[(gt,()),n] w (kM (secT x s n) w):=by
 obtain⟨H,K,I,G,C,A,E,J,i⟩:=h.lies;obtain⟨L,_,_,_,u,_⟩:=nw i.row;have b:=i.puts.look_ok (k:=(n:Int)) intT Qw (u8sZ w) (by unfold InZ;have:=M.2.1;omega);rcases i.secs.get (k:=(n:Int)) with⟨g,d⟩|⟨v,D,g,d,t⟩
 .unfold hasZ at b;rw[g]at b;have r:Hid (secT x s n=secE s n):=by show _=_;unfold secT;rw[d];rfl
  rw[show ((none:Option Value).getD (.slice none 0 0))=.slice none 0 0 from rfl,show ((none:Option Value).isSome)=false from rfl]at b;have m:=za (OG N n (by have j:=M.2.2;rw[d]at j;rcases j with j|j<;>first|omega|cases j));clear h N i g d M;go_enter func115,ntmps115;go_wp2_with fail
  refine m.o.mono ?_;rintro e y ⟨l,rfl,c⟩;have q:=za c;clear c;go_wp2;go_ret;rw[r.o];exact⟨l,rfl,q.o⟩
 .unfold hasZ at b;rw[g]at b;have r:Hid (secT x s n=D):=by show _=_;unfold secT;rw[d];rfl
  rw[show ((some v).getD (.slice none 0 0))=v from rfl,show ((some v).isSome)=true from rfl]at b;have f:D.length=64:=by obtain⟨_,_,_,_,z,_⟩:=t;exact z
  have p:=za (ZH v D w t.at (by omega) (by omega));clear h N i g d t f M;go_enter func115,ntmps115;go_wp2_with fail
  refine p.o.mono ?_;rintro e y ⟨l,rfl,c⟩;have q:=za c;clear c;go_wp2;go_ret;rw[r.o];exact⟨l,rfl,q.o⟩
theorem R6 {x:Tx} (h:TxAt w B F gt (gf,()) x T) (hf:FsAt w gf s F1 a) (X:Pn) (q) (n c) (hX:tP w (.slice q n c) X.P) (k:Nat) (hk:k<8) (hP:∀p∈X.P,PtR x s p) (ae:X.P.length<=8):
 Calls prog 72 #[(gt,()),.agg #[X.k,X.m,X.u,X.g,X.s,X.l,X.up,.slice q n c],k] w (kM (sc x s X.P k) w):=by
 obtain⟨p,cp,hv,b⟩:=kF hX;injection hv with e1 O e3;subst e1 e3;have J:=za O.symm;clear O;rw[J.o]at b ae;have f:Hid (Below w w (w.alloc (.cells #[X.k,X.m,X.u,X.g,X.s,X.l,X.up,(q,n,c)] 102))):=zB.alloc zL _;have U:=za (h.below f.o);have L:=za (hf.below f.o);obtain⟨Z,E⟩:=zA (List.replicate 64 (0:Int));have Y:∀W,(Instr.makeSlice 38 (.int .i64 64) (.int .i64 64)).run prog W=.ok (.slice (some ⟨W.heap.size,0,none⟩) 64 64) (W.alloc (.cells (u8s Z).toArray 5)):=λW=>by rw[E.o];exact Mj 64 64 rfl (by omega) W
 have A:Hid (sc x s X.P k=Z->kM (sc x s X.P k) w (.returned (.slice (some ⟨(w.alloc (.cells #[X.k,X.m,X.u,X.g,X.s,X.l,X.up,(q,n,c)] 102)).heap.size,0,none⟩) 64 64)) ((w.alloc (.cells #[X.k,X.m,X.u,X.g,X.s,X.l,X.up,(q,n,c)] 102)).alloc (.cells (u8s Z).toArray 5))):=λI=>by
  have C:Z.length=64:=by rw[E.o];simp
  refine kM.bump f.o ⟨_,rfl,_,64,_,by rw[I,C],⟨zL,by rw[I,C];exact zL⟩,zH,?_,zB.alloc zL _⟩;rw[I,zo (by rw[xU,wd];exact zL)]
 by_cases G:n<=k
 .have D:Hid (sc x s X.P k=Z):=by show _=_;unfold sc;rw[zt,yW (by rw[J.o];exact G),show (none:Option Int).getD 0=0 from rfl,ze rfl,E.o]
  have R:decide (n<=(k:Int))=true:=zX (by omega);have Q:n<=(k:Int):=by omega
  clear h hf hX b;go_enter func72,ntmps72;go_wp2;go_ret;simpa using A.o D.o
 .have d:k<X.P.length:=by rw[J.o];omega
  obtain⟨H,op,rfl,r⟩:=b.o (by omega);have N:=r k _ (pQ X.P k d);have M:=zy N;have aa:¬H=w.heap.size:=by show ¬H=w.heap.size;have h2:H<w.heap.size:=M;omega
  have t:=hP _ (Nj d);have j:X.P.getD k 0=X.P[k]:=by rw[zt,zk d];rfl
  have R:decide (n<=(k:Int))=false:=zJ (by omega);have Q:¬n<=(k:Int):=by omega
  have d3:k<(n:Int):=by omega
  obtain⟨y,Hy⟩:=zD (X.P[k]' d);rw[Hy.o]at N t j;by_cases i:y=0
  .subst i;have D:Hid (sc x s X.P k=Z):=(by show _=_;unfold sc;rw[j,ze rfl,E.o]);clear h hf hX b r;go_enter func72,ntmps72;go_wp2;go_ret;simpa using A.o D.o
  .have b0:(y==0)=false:=(by simpa using i);obtain⟨p,K⟩:∃p:Nat,Hid (y=(p:Int)):=⟨y.toNat,by show _=_;have:=t.1;omega⟩;have D:Hid (sc x s X.P k=secT x s p):=(by show _=_;unfold sc;rw[j,zb i,K.o];rfl);have z:=za (YI U.o L.o p (by rw[<-K.o];exact t));rw[<-K.o]at z;clear h hf hX b r i;go_enter func72,ntmps72;go_wp2_with fail
   refine z.o.mono ?_;intro e w1 V;obtain⟨S,rfl,v⟩:=V;have HV:=za v;clear v;go_wp2;go_ret;rw[D.o];exact kM.bump f.o ⟨S,rfl,HV.o⟩
