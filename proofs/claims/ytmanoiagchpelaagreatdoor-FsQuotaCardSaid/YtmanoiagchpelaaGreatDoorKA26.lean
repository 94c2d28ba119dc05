import Derived.Test.YtmanoiagchpelaaGreatDoorKA25
set_option maxHeartbeats 0
set_option linter.all false
set_option maxRecDepth 100000
namespace Go.Proofs.YtmanoiagchpelaaGreatDoor
open Go.Proofs.Tryz Go.RowKit
variable {B cn g gd gf gn gp gt k:Nat} {E:List Nd} {F F1 T T':Nat->Prop} {a:Addr} {c:Array Value} {f fo:Fo} {fp gv nv rv:Value} {fr:Nat×Nat} {pl:List (Int×Value)} {s:Fs} {t:TypeId} {w w' w0:World}
structure Tx where
 fo:Fo
 rows:List (Int×Int)
 nodes:List Pn
 dirty:List (Int×Value)
 put:List (Int×List Int)
 gone:List Int
 full:Bool
 fake:Int
def pT (fp:Value) (fo:Fo) (rv nv dv pv gv:Value) (full:Bool) (fake:Int) (i:Nat):Value:=
 if i=0 then fp else if i<193 then uU fo ((i-1) / 48) ((i-1)%48) else if i=193 then rv else if i=194 then nv else if i=195 then dv else if i=196 then pv else if i=197 then gv else if i=198 then .bool full else .int .i64 fake
def txR (fp:Value) (fo:Fo) (rv nv dv pv gv:Value) (full:Bool) (fake:Int):Array Value:=Array.ofFn (n:=200) fun i=>pT fp fo rv nv dv pv gv full fake i.val
section
variable (fp : Value) (fo : Fo) (rv nv dv pv gv : Value) (full : Bool) (fake : Int)
theorem pi: (txR fp fo rv nv dv pv gv full fake).size=200:=by simp[txR]
theorem qt (i) (h:i<200):(txR fp fo rv nv dv pv gv full fake)[i]?=some (pT fp fo rv nv dv pv gv full fake i):=by simp[txR,h]
theorem eK: ∀j,j<(encF fo).size->(txR fp fo rv nv dv pv gv full fake)[1+j]?=(encF fo)[j]? :=fun j a=>by rw[uj]at a;rw[qt _ _ _ _ _ _ _ _ _ _ (by omega)];have:=rk fo (j / 48) (j%48) (by omega) (by omega);rw[show j / 48*48+j%48=j by omega]at this;rw[this];unfold pT;rw[zb (by omega),ze (by omega),show 1+j-1=j by omega]
theorem iS: ∀j,j<(enc (fo.hs 0)).size->(txR fp fo rv nv dv pv gv full fake)[17+j]?=(enc (fo.hs 0))[j]? :=fun j b=>by rw[tP]at b;have a:=eK fp fo rv nv dv pv gv full fake (16+j) (by rw[uj];omega);rw[show 1+(16+j)=17+j by omega]at a;rw[a];have:=Vx fo 0 (by omega) j (by rw[tP];exact b);simpa using this
def hasF (f:Fo) (s:Nat->Bool):Fo:=⟨f.nd,fun k=>if k=0 then s else f.hs k⟩
def ndF (f:Fo) (k:Nat) (p:Int):Fo:=⟨fun a j=>if a=0/\j=k then p else f.nd a j,f.hs⟩
theorem Ic (f) (s) (a j) (h:a≠0\/j<16):uU (hasF f s) a j=uU f a j:=by
 unfold uU hasF;by_cases b:j<16
 .rw[ze b,ze b]
 .rw[zb b,zb b];rcases h with h|h
  .simp[h]
  .exact zY h b
theorem KZ (s):((txR fp fo rv nv dv pv gv full fake).toList.take 17++(enc s).toList++(txR fp fo rv nv dv pv gv full fake).toList.drop (17+(enc s).size)).toArray=txR fp (hasF fo s) rv nv dv pv gv full fake:=by
 apply xa;intro i;have d:(enc s).toList.length=32:=by simpa using tP s
 have a:(txR fp fo rv nv dv pv gv full fake).toList.length=200:=by simpa using pi fp fo rv nv dv pv gv full fake
 have f:∀j,(txR fp fo rv nv dv pv gv full fake).toList[j]?=(txR fp fo rv nv dv pv gv full fake)[j]? :=fun j=>zO;rw[xM,tP];by_cases g:i<17
 .rw[zP,zX (by rw[zj,a];omega),zI,ze g,f,qt _ _ _ _ _ _ _ _ _ _ (by omega),qt _ _ _ _ _ _ _ _ _ _ (by omega)];unfold pT;by_cases b:i=0
  .rw[ze b,ze b]
  .rw[zb b,zb b,ze (by omega),ze (by omega),Ic _ _ _ _ (zu (by omega))]
 .by_cases h:i<49
  .rw[zP,zy (by rw[zj,a];omega),zX (by rw[zj,a,d];omega),zj,a,qt _ _ _ _ _ _ _ _ _ _ (by omega),zO,pY _ _ (by omega)];unfold pT;rw[zb (by omega),ze (by omega)];unfold uU hasF;rw[zb (by omega),show (i-1) / 48=0 by omega,show min 17 200=17 by omega,show (i-1)%48-16=i-17 by omega];rfl
  .rw[zP,zy (by rw[zj,a];omega),zy (by rw[zj,a,d];omega),yw,zj,a,d,f];rw[show 17+32+(i-min 17 200-32)=i by omega];by_cases e:i<200
   .rw[qt _ _ _ _ _ _ _ _ _ _ e,qt _ _ _ _ _ _ _ _ _ _ e];unfold pT;have b:¬i=0:=(by omega);rw[zb b,zb b];by_cases c:i<193
    .rw[ze c,ze c,Ic _ _ _ _ (zr (by omega))]
    .rw[zb c,zb c]
   .rw[yd (by rw[pi];omega),yd (by rw[pi];omega)]
theorem YI (i) (_h:193<=i) (u) (c:i<200):(txR fp fo rv nv dv pv gv full fake).setIfInBounds i u=Array.ofFn (n:=200) fun j=>if j.val=i then u else pT fp fo rv nv dv pv gv full fake j.val:=by
 apply xa;intro j;rw[yM,pi];by_cases b:i=j
 .rw[ze b,ze (by omega)];subst b;simp[c]
 .rw[zb b];by_cases a:j<200
  .rw[qt _ _ _ _ _ _ _ _ _ _ a];simp[a,yA b]
  .rw[yd (by rw[pi];omega),yd (by simp;omega)]
end
theorem gR (fp) (fo) (rv nv dv pv gv) (full) (fake) (u):(txR fp fo rv nv dv pv gv full fake).setIfInBounds 197 u=txR fp fo rv nv dv pv u full fake:=by
 rw[YI _ _ _ _ _ _ _ _ _ 197 (by omega) u (by omega)];unfold txR
 congr 1
 funext j
 unfold pT;by_cases h:j.val=197
 .simp[h]
 .simp[h]
structure TxAt (w:World) (B:Nat) (F:Nat->Prop) (gt:Nat) (fp:Value) (x:Tx) (T:Nat->Prop):Prop where
 ex:∃rv gn cn gd gp gv E pl,
  w.heap[gt]?=some (.cells (txR fp x.fo rv (.slice (some ⟨gn,0,none⟩) 32 cn) (.map (some gd)) (.map (some gp)) gv x.full x.fake) 118) /\
  Out (fun i=>F i\/T i) w (fun w'=>wh w' rv 2 x.rows.length (wY x.rows)) /\
  w.ownsRow B 123 8 (.slice (some ⟨gn,0,none⟩) 32 cn) 32 (uG E)/\tZ (fun i=>F i\/T i) w E x.nodes /\
  MapL prog 3 w gd x.dirty /\
  MapL prog 3 w gp pl/\tu w B pl x.put/\gd≠gp /\
  w.ownsRow B 3 1 gv x.gone.length (ints x.gone) /\
  T gn/\T gd/\T gp/\(∀b,gv.ownBlock=some b->T b)
 self:T gt
 len:x.nodes.length=32
 fin:∀i,T i->i<w.heap.size
 new:∀i,T i->B<=i
 gone:x.gone.length<=1000
 put:x.put.length<=1000
 dirty:x.dirty.length<=1000
 rows:x.rows.length<=20
 fake:0<=x.fake/\x.fake<=1000000
def uc (B:Nat) (F:Nat->Prop) (gt:Nat) (fp:Value) (x':Tx) (T:Nat->Prop) (w w':World):Prop:=
 ∃T',TxAt w' B F gt fp x' T'/\(∀i,T' i->T i\/w.heap.size<=i)/\yQ T w w'/\∀i,T i->T' i
theorem lJ {φ:World->Prop} (h:Out (fun i=>F i\/T i) w φ) (d:yQ T w w') (e:∀i,T' i->T i\/w.heap.size<=i):Out (fun i=>F i\/T' i) w' φ:=fun c b=>
 h c ((d.mono (F1:=fun i=>F i\/T i) (fun i _ a=>zu a)).trans b fun i a=>by
  rcases a with a|a
  .exact zr (zr a)
  .rcases e i a with a|a
   .exact zr (zu a)
   .exact zu a)
theorem qS {L:List Pn} (h:tZ (fun i=>F i\/T i) w E L) (m:yQ T w w') (n:∀i,T' i->T i\/w.heap.size<=i):tZ (fun i=>F i\/T' i) w' E L:=
 ⟨h.1,fun i g e=>by obtain⟨b,l,c,f,a,d,j,k⟩:=h.2 i g e;exact⟨b,l,c,f,a,d,j,lJ k m n⟩⟩
theorem TxAt.below {x:Tx} (h:TxAt w B F gt fp x T) (O:Below w w w'):TxAt w' B F gt fp x T:=by
 obtain⟨⟨u,J,z,q,o,n,E,C,r,l,G,p,f,j,s,A,K,b,e,d,a⟩,L,M,t,y,v,I,m,k,D⟩:=h;exact⟨⟨u,J,z,q,o,n,E,C,wy O r,l.below O,tB G O,p.keep (yQ.of_below O),f.of_block (O.block _ f.lt),j.of_block (O.block _ j.lt),s.keep (fun g c _ N=>O.block g (xR N)),A,tB K O,b,e,d,a⟩,
  L,M,fun i H=>zo (t i H) O.size,y,v,I,m,k,D⟩
theorem uc.same {x:Tx} (h:TxAt w B F gt fp x T) (b:Below w w w'):uc B F gt fp x T w w':=⟨T,h.below b,fun _ a=>zr a,yQ.of_below b,fun _ a=>a⟩
theorem tQ {P:Program} {K:TypeId} {b:Nat} {l:List (Int×Value)} (h:w.heap[g]?=some (.cells c t fr)) (f:MapL P K w b l):g≠b:=by rintro rfl;obtain⟨⟨e,d,a,_⟩,_⟩:=f;rw[h]at a;injection a with a;cases a
structure uV (w:World) (B:Nat) (F T:Nat->Prop) (gt:Nat) (fp:Value) (x:Tx) (rv:Value) (gn cn gd gp:Nat) (gv:Value) (E:List Nd) (pl:List (Int×Value)):Prop where
 row:w.heap[gt]?=some (.cells (txR fp x.fo rv (.slice (some ⟨gn,0,none⟩) 32 cn) (.map (some gd)) (.map (some gp)) gv x.full x.fake) 118)
 rows:Out (fun i=>F i\/T i) w (fun w'=>wh w' rv 2 x.rows.length (wY x.rows))
 own:w.ownsRow B 123 8 (.slice (some ⟨gn,0,none⟩) 32 cn) 32 (uG E)
 nds:tZ (fun i=>F i\/T i) w E x.nodes
 dirt:MapL prog 3 w gd x.dirty
 puts:MapL prog 3 w gp pl
 secs:tu w B pl x.put
 ne:gd≠gp
 gone:w.ownsRow B 3 1 gv x.gone.length (ints x.gone)
 tn:T gn
 td:T gd
 tp:T gp
 tg:∀b,gv.ownBlock=some b->T b
theorem TxAt.lies {x:Tx} (h:TxAt w B F gt fp x T):∃rv gn cn gd gp gv E pl,uV w B F T gt fp x rv gn cn gd gp gv E pl:=by obtain⟨rv,gn,cn,gd,gp,gv,E,pl,g,e,l,f,j,m,i,k,n,b,d,c,a⟩:=h.ex;exact⟨rv,gn,cn,gd,gp,gv,E,pl,g,e,l,f,j,m,i,k,n,b,d,c,a⟩
theorem uV.block {x:Tx} (h:uV w B F T gt fp x rv gn cn gd gp gv E pl):
 ∃cur,w.heap[gn]?=some (.cells cur 123)/\cur.size=cn*8/\32<=cn/\cn<=maxLen/\cur.toList.take 256=uG E/\B<=gn:=by
 obtain⟨_,⟨b,_⟩|⟨g,c,cur,b,i,e,k,f,j,d⟩⟩:=id h.own
 .cases b
 injection b with a _ l;injection a with a;injection a with a;subst a l;exact⟨cur,e,j,k,f,d,i⟩
theorem uV.below {x:Tx} (h:uV w B F T gt fp x rv gn cn gd gp gv E pl) (b:Below w w w'):uV w' B F T gt fp x rv gn cn gd gp gv E pl:=
 ⟨wy b h.row,h.rows.below b,tB h.own b,h.nds.keep (yQ.of_below b),h.dirt.of_block (b.block _ h.dirt.lt),h.puts.of_block (b.block _ h.puts.lt),h.secs.keep (fun g _c _ a=>b.block g (xR a)),h.ne,tB h.gone b,h.tn,h.td,h.tp,h.tg⟩
theorem uV.at {x:Tx} (h:uV w B F T gt fp x rv gn cn gd gp gv E pl) (a:T gt) (b:x.nodes.length=32) (c:∀i,T i->i<w.heap.size) (d:∀i,T i->B<=i)
 (e:x.gone.length<=1000) (b2:x.put.length<=1000) (f:x.dirty.length<=1000) (g:x.rows.length<=20) (j:0<=x.fake/\x.fake<=1000000):TxAt w B F gt fp x T:=
 ⟨⟨rv,gn,cn,gd,gp,gv,E,pl,h.row,h.rows,h.own,h.nds,h.dirt,h.puts,h.secs,h.ne,h.gone,h.tn,h.td,h.tp,h.tg⟩,a,b,c,d,e,b2,f,g,j⟩
theorem uc.old {x y:Tx} (h:uc w0 F gt fp x T w w') (f:Below w0 w0 w) (g:TxAt w w0 F gt fp y T):Below w0 w0 w':=by obtain⟨e,d,b,a,c⟩:=h;exact f.trans (a.to_below g.new f.size)
theorem TxAt.outer {F':Nat->Prop} {x:Tx} (h:TxAt w B F gt fp x T) (e:∀i,i<w.heap.size->F' i->F i):TxAt w B F' gt fp x T:=by obtain⟨rv,gn,cn,gd,gp,gv,E,pl,a⟩:=h.lies;have b:∀i,i<w.heap.size->(F' i\/T i)->(F i\/T i):=fun i c d=>d.imp (e i c) id;exact uV.at (rv:=rv) (gn:=gn) (cn:=cn) (gd:=gd) (gp:=gp) (gv:=gv) (E:=E) (pl:=pl) ⟨a.row,a.rows.grow b,a.own,a.nds.grow b,a.dirt,a.puts,a.secs,a.ne,a.gone,a.tn,a.td,a.tp,a.tg⟩ h.self h.len h.fin h.new h.gone h.put h.dirty h.rows h.fake
theorem TxAt.grow {x:Tx} (h:TxAt w B F gt fp x T) (c:Below w w w') (g) (d:w.heap.size<=g):TxAt w' B (fun i=>F i\/i=g) gt fp x T:=
 (h.outer (F':=fun i=>F i\/i=g) (fun i b a=>by
  rcases a with a|a
  .exact a
  .omega)).below c
theorem TxAt.local {x:Tx} (h:TxAt w B F gt fp x T) (u:F g) (r:¬T g) (v:w.heap[g]?=some (.cells c t)) (y:t≠5) (s:yQ (fun i=>i=g) w w'):TxAt w' B F gt fp x T:=by
 obtain⟨rv,gn,cn,gd,gp,gv,E,pl,a⟩:=h.lies;have e:∀b,b<w.heap.size->b≠g->w'.heap[b]?=w.heap[b]? :=fun b n m=>s.block b n m;have k:∀b,T b->b≠g:=fun b e p=>r (p▸e);have f:yQ (fun i=>F i\/T i) w w':=s.mono fun i _ l=>zr (l▸u);refine uV.at (rv:=rv) (gn:=gn) (cn:=cn) (gd:=gd) (gp:=gp) (gv:=gv) (E:=E) (pl:=pl) ⟨(e gt (xR a.row) (k gt h.self)).trans a.row,a.rows.keep f,?_,a.nds.keep f,?_,?_,?_,a.ne,?_,a.tn,a.td,a.tp,a.tg⟩ h.self h.len (fun i l=>zo (h.fin i l) s.size) h.new h.gone h.put h.dirty h.rows h.fake
 .exact tw a.own fun b d=>e b (a.own.lt b d).2 (by injection d with d;rw[<-d];exact k gn a.tn)
 .exact a.dirt.of_block (e gd a.dirt.lt (k gd a.td))
 .exact a.puts.of_block (e gp a.puts.lt (k gp a.tp))
 .exact a.secs.keep fun o q _ j=>e o (xR j) (tC j v (yA y))
 .exact tw a.gone fun b d=>e b (a.gone.lt b d).2 (k b (a.tg b d))
section
variable {w : World} {gt : Nat} {fp : Value} {fo : Fo} {rv nv dv pv gv : Value} {full : Bool} {fake : Int} {t : TypeId} {fr : Nat×Nat}
theorem rt (h:w.heap[gt]?=some (.cells (txR fp fo rv nv dv pv gv full fake) t fr)):
 w.cell? (gt,0)=some fp/\w.cell? (gt,193)=some rv/\w.cell? (gt,194)=some nv/\w.cell? (gt,195)=some dv/\w.cell? (gt,196)=some pv/\w.cell? (gt,197)=some gv/\w.cell? (gt,198)=some (.bool full)/\w.cell? (gt,199)=some (.int .i64 fake):=
 have c:=fun i (a:i<200)=>(wM _ _ i _ _ _ h).trans (qt fp fo rv nv dv pv gv full fake i a)
 ⟨c 0 (by omega),c 193 (by omega),c 194 (by omega),c 195 (by omega),c 196 (by omega),c 197 (by omega),c 198 (by omega),c 199 (by omega)⟩
end
def ju (G:Nat->Prop) (X:Pn) (w':World) (q:Option Addr) (n c:Nat):Prop:=Out G w' (fun w2=>vT w2 (q,n,c) X.P)
theorem mr {x:Tx} (h:TxAt w B F gt fp x T) (i:Nat) (hi:i<32) (X) (hX:x.nodes[i]?=some X):
 Calls prog 84 #[(gt,()),.int .i64 (i+1)] w
  (fun e w'=>∃q n c,e=.returned (.agg #[.int .i64 X.k,.int .i64 X.m,.int .i64 X.u,.int .i64 X.g,.int .i64 X.s,.int .i64 X.l,.int .i64 X.up,.slice q n c])/\ju (fun i=>F i\/T i) X w' q n c/\Below w w w'):=by
 obtain⟨⟨rv,gn,cn,gd,gp,gv,E,pl,R,h2,W,O,h5,h6,h7,h8,h9,K,S,N,D⟩,a1,a2,a3,a4,a5,a6,a7,a8,a9⟩:=h;obtain⟨_,_,ae,_⟩:=rt R;have t:E.length=32:=by rw[O.1];exact a2
 have a:wh w (.slice (some ⟨gn,0,none⟩) 32 cn) 8 E.length (uG E):=by rw[t];exact wh.of_owns W
 obtain⟨p2,ap,A,V⟩:=jT a;rw[t]at A V;injection A with j _ p;subst j p;obtain⟨g,o,f,hg,hc⟩:=V.o (by omega);injection f with f;injection f with j p;subst j p;have z:i<E.length:=by omega
 have b:i<x.nodes.length:=by omega
 obtain⟨G,j,p,U,P,M,L,I⟩:=mN hc i z;have d:=O.2 i z b;have C:x.nodes[i]=X:=by rw[zh b]at hX;injection hX
 rw[C]at d;generalize E[i]=y at G j p U P M L I d;obtain⟨yk,ym,yu,yg,ys,yl,aw,H,Q,J⟩:=y;obtain⟨f0,f1,Y,f3,Z,f5,f6,r⟩:=d;dsimp only at G j p U P M L I f0 f1 Y f3 Z f5 f6;subst f0 f1 Y f3 Z f5 f6;have HI:=za r;have ad:=xR R;have ab:¬gt=w.heap.size:=by omega
 have aq:¬gn=w.heap.size:=by omega
 have i1:IntKind.i64.wrap (i+1-1)=i:=by rw[zQ _ (by omega)];omega
 simp only[yO]at G j p U P M L I;clear R h2 W O h5 h6 h7 h9 K S N D V hc r a hX C b a1 a2 a3 a4 a5 a6 a7 a8 a9;go_enter func84,ntmps84;go_wp2;obtain⟨z0,z1,z2,z3,z4,z5,z6,z7⟩:=uT (zT w (.cells #[X.k,X.m,X.u,X.g,X.s,X.l,X.up,(H,Q,J)] 123));have HB:Hid (Below w w (w.alloc (.cells #[X.k,X.m,X.u,X.g,X.s,X.l,X.up,(H,Q,J)] 123))):=zB.alloc zL _;exact yV (v:=.agg #[X.k,X.m,X.u,X.g,X.s,X.l,X.up,(H,Q,J)]) (by simp[results,results84,go_sem,z0,z1,z2,z3,z4,z5,z6,z7]) rfl ⟨_,_,_,rfl,HI.o.below HB.o,HB.o⟩
theorem P8 (E) (i) (h:i<E.length) (e):((uG E).toArray.toList.take (i*8)++(nd8 e).toArray.toList++(uG E).toArray.toList.drop (i*8+(nd8 e).toArray.size)).toArray=(uG (E.set i e)).toArray:=by
 congr 1
 have d:(nd8 e).toArray.size=8:=rfl;rw[d,xX,xX]
 induction E generalizing i with
 | nil=>simp at h
 | cons y E f=>
  have b:uG (y::E)=nd8 y++uG E:=rfl;have a:(nd8 y).length=8:=rfl;cases i with
  | zero=>
   rw[b,yi];show (nd8 y++uG E).take 0++nd8 e++(nd8 y++uG E).drop 8=nd8 e++uG E;rw[xH,yU,ur (by rw[a];exact zL),show (nd8 y).drop 8=[] from rfl,yU]
  | succ i=>
   have:=f i (by simpa using h);rw[b,yf,show uG (y::E.set i e)=nd8 y++uG (E.set i e) from rfl,<-this];rw[show (i+1)*8=8+i*8 by omega,show 8+i*8+8=8+(i*8+8) by omega];rw[mW,List.drop_append,a];have c:(nd8 y).take (8+i*8)=nd8 y:=zv (by rw[a];omega);have g:(nd8 y).drop (8+(i*8+8))=[]:=vN (by rw[a];omega);rw[c,g,yU,show 8+i*8-8=i*8 by omega,show 8+(i*8+8)-8=i*8+8 by omega,zP,zP,zP]
theorem MU {α:Type} (l d:List α) (a m) (h:a+d.length<=m) (c:m<=l.length):(l.take a++d++l.drop (a+d.length)).take m=(l.take m).take a++d++(l.take m).drop (a+d.length):=by
 have b:(l.take m).take a=l.take a:=by rw[vj,vW (by omega)]
 rw[b,zP,mW,mW,zj,vW (by omega)];rw[zv (by rw[zj];omega),zv (l:=d) (by omega),zP]
 congr 2
 rw[List.drop_take]
 congr 1
 omega
theorem lP {x:Tx} (h:TxAt w B F gt fp x T) (i:Nat) (hi:i<32) (X) (q) (n c) (hX:ju (fun i=>F i\/T i) X w q n c) (hd:x.dirty.length<900):
 Calls prog 85 #[(gt,()),.int .i64 (i+1),.agg #[.int .i64 X.k,.int .i64 X.m,.int .i64 X.u,.int .i64 X.g,.int .i64 X.s,.int .i64 X.l,.int .i64 X.up,.slice q n c]] w
  (fun e w'=>e=.returned (.tuple #[])/\uc B F gt fp {x with nodes:=x.nodes.set i X,dirty:=putZ x.dirty (i+1) (.bool true)} T w w'):=by
 have H:=za h;obtain⟨⟨rv,gn,cn,gd,gp,gv,E,pl,f,z,R,h4,h5,h6,h7,h8,h9,ac,ak,ah,U⟩,a1,a2,a3,a4,a5,a6,a7,a8,a9⟩:=h;have an:Hid (uV w B F T gt fp x rv gn cn gd gp gv E pl):=⟨f,z,R,h4,h5,h6,h7,h8,h9,ac,ak,ah,U⟩;obtain⟨c0,aF,ae,aI,aK,aO,aL,aH⟩:=rt f;have aa:E.length=32:=by rw[h4.1];exact a2
 have ad:=xR f;have aG:¬gt=w.heap.size:=by omega
 have i1:IntKind.i64.wrap (i+1-1)=i:=by rw[zQ _ (by omega)];omega
 obtain⟨_,⟨N,_⟩|⟨bm,bg,t,N,bl,hh,J,al,Y,O⟩⟩:=id R
 .cases N
 injection N with Z _ e2;injection Z with Z;injection Z with Z;subst Z e2;have HN:=za hh;have aq:Hid (t.size=cn*8/\32<=cn):=⟨Y,J⟩;have az:=za (tC f hh (by decide));have ag:=za f;have C:=za h5;clear f z R h4 h5 h6 h7 h9 ac ak ah U O Y al J a1 a2 a3 a4 a5 a6 a7 a8 a9;go_enter func85,ntmps85;go_wp2_with fail
 have ab:=zT w (.cells #[X.k,X.m,X.u,X.g,X.s,X.l,X.up,(q,n,c)] 123);have aC:=za ab;have ai:Hid (Below w w (w.alloc (.cells #[X.k,X.m,X.u,X.g,X.s,X.l,X.up,(q,n,c)] 123))):=zB.alloc zL _;have K:=(ai.o.cell (p:=⟨gt,194,none⟩) ad).trans ae;clear ab;generalize w.alloc (.cells #[X.k,X.m,X.u,X.g,X.s,X.l,X.up,(q,n,c)] 123)=w1 at *
 have am:=xA K;refine Zz 8 (by kernel_rfl) (by kernel_rfl) ?_;simp only[wZ,xH,vd,wT]
 repeat (first
  | go_big_quiet_skip
  | (refine Gj rfl 123 (.tmp 5) rfl w rfl 123 #[X.k,X.m,X.u,X.g,X.s,X.l,X.up,(q,n,c)] (0,0) _ (fun _ hw=>Zv hw aC.o) underlying123 rfl ma ?_;simp only[Act.put,zK,yi,yf])
  | (go_big_quiet_want;go_big_quiet_op;go_big_quiet_on))
 refine ve ?_;intro S ao;have j:=zf ai.o (sF ao);obtain⟨e,He⟩:∃e:Nd,Hid (e=⟨X.k,X.m,X.u,X.g,X.s,X.l,X.up,q,n,c⟩):=⟨_,rfl⟩;obtain⟨d,M⟩:∃Q:Array Value,Hid ((t.toList.take (i*8)++(#[X.k,X.m,X.u,X.g,X.s,X.l,X.up,(q,n,c)]:Array Value).toList++t.toList.drop (i*8+8)).toArray=Q):=⟨_,rfl⟩;have L:=za (wy j HN.o);have a0:=za aq.o;have aj:=az.o;have aD:=za (wy j ag.o);have aQ:=(uD (xh S gn gt d aj)).trans (rt aD.o).2.2.2.1;have V:=za ((C.o.of_block (j.block _ C.o.lt)).of_block (xh S gn gd d (fun v=>by have f:=C.o.of_block (j.block _ C.o.lt);obtain⟨⟨es,au,z,_⟩,_⟩:=f;rw[v,L.o]at z;injection z with z;cases z)));clear am K;go_wp2_with (first
  | (refine jI rfl 123 (.tmp 13) (.tmp 12) rfl gn (i*8) #[X.k,X.m,X.u,X.g,X.s,X.l,X.up,(q,n,c)] rfl rfl 123 t d L.o ma (by have:=a0.o;show i*8+8<=t.size;omega) (VL _ _ _ _ _ _ _ _ rfl) M.o ?_)
  | (at_mapUpdate;refine Jy _ rfl _ _ _ _ rfl 3 4 intT pH gd x.dirty ((i:Int)+1) (.bool true) rfl V.o (by omega) rfl rfl (by unfold InZ;omega) ?_;intro w4 ar P))
 go_end0
 have G:=H.o;have a:=an.o;have av:yQ T w S:=yQ.of_below j;have aA:yQ T w (S.setRow gn d):=av.step (yQ.setRow a.tn _);have A:=aA.step (yQ.grown P.grown (fun r hr=>by injection hr with hr;rw[<-hr];exact a.td));have D:∀b,b<w.heap.size->b≠gn->b≠gd->w4.heap[b]?=w.heap[b]? :=fun b y f z=>
  (P.grown.block b (by simp;exact zo y j.size) (by intro v;injection v with v;exact z v)).trans ((xh S gn b d f).trans (j.block b y))
 have af:w4.heap[gn]?=some (.cells d 123):=by have f:(S.setRow gn d).heap[gn]?=some (.cells d 123):=yh _ _ _ _ _ _ L.o;exact (P.grown.block gn (xR f) (by intro v;injection v with v;exact tQ f V.o v)).trans f
 obtain⟨Q,I,q2,q3,q4,q5,q6⟩:=a.block;have aB:Q=t:=by rw[HN.o]at I;injection I with I;injection I with I;exact I.symm
 subst aB;have aa:E.length=32:=by rw[a.nds.1];exact G.len
 have W:(nd8 ⟨X.k,X.m,X.u,X.g,X.s,X.l,X.up,q,n,c⟩).length=8:=rfl;have O:d.toList.take 256=uG (E.set i ⟨X.k,X.m,X.u,X.g,X.s,X.l,X.up,q,n,c⟩):=by rw[<-M.o];have f:=MU Q.toList (nd8 ⟨X.k,X.m,X.u,X.g,X.s,X.l,X.up,q,n,c⟩) (i*8) 256 (by rw[W];omega) (by simp only[yv];omega);rw[W]at f;show (Q.toList.take (i*8)++nd8 ⟨X.k,X.m,X.u,X.g,X.s,X.l,X.up,q,n,c⟩++Q.toList.drop (i*8+8)).take 256=_;rw[f,q5];have z:=P8 E i (by omega) ⟨X.k,X.m,X.u,X.g,X.s,X.l,X.up,q,n,c⟩;have R:=zV Array.toList z;rw[xX,xX]at R;exact R
 have ax:d.size=cn*8:=by rw[<-M.o];simp only[uz,zm,zj,yB,yv,yx,xS];omega
 refine⟨rfl,T,uV.at (rv:=rv) (gn:=gn) (cn:=cn) (gd:=gd) (gp:=gp) (gv:=gv) (E:=E.set i ⟨X.k,X.m,X.u,X.g,X.s,X.l,X.up,q,n,c⟩) (pl:=pl) ⟨?_,lJ a.rows A (fun _ hi=>zr hi),?_,?_,ar,?_,?_,a.ne,?_,a.tn,a.td,a.tp,a.tg⟩ G.self (by simpa using G.len) (fun i hi=>zo (G.fin i hi) A.size) G.new G.gone G.put ?_ G.rows G.fake,fun _ hi=>zr hi,A,fun _ hi=>hi⟩
 .exact (D gt (xR a.row) aj (tQ a.row a.dirt)).trans a.row
 .refine⟨by rw[N7,xK,aa],zu ⟨gn,cn,d,rfl,q6,af,q3,q4,ax,O⟩⟩
 .refine tZ.set (qS a.nds A (fun _ hi=>zr hi)) ⟨rfl,rfl,rfl,rfl,rfl,rfl,rfl,?_⟩ i;exact lJ hX A (fun _ hi=>zr hi)
 .exact a.puts.of_block (D gp a.puts.lt (yA (tQ I a.puts)) (yA a.ne))
 .exact a.secs.keep fun g cc _ v=>D g (xR v) (tC v I (by decide)) (tQ v a.dirt)
 .refine tw a.gone fun b y=>D b (a.gone.lt b y).2 ?_ ?_
  .exact rH a.gone I (by decide) b y
  .obtain⟨_,⟨N,_⟩|⟨g,c1,aX,N,_,ap,_⟩⟩:=id a.gone
   .rw[N]at y;cases y
   .rw[N]at y;injection y with y;rw[<-y];exact tQ ap a.dirt
 .exact zt (oy _ _ _) (by omega)
theorem uV.putHas {x:Tx} (h:uV w B F T gt fp x rv gn cn gd gp gv E pl) (t:TxAt w B F gt fp x T) (fo)
 (u:yQ (fun i=>i=gt) w w') (v:w'.heap[gt]?=some (.cells (txR fp fo rv (.slice (some ⟨gn,0,none⟩) 32 cn) (.map (some gd)) (.map (some gp)) gv x.full x.fake) 118)):uc B F gt fp {x with fo:=fo} T w w':=by
 have d:yQ T w w':=u.mono fun i _ c=>by rw[c];exact t.self
 have e:∀b,b<w.heap.size->b≠gt->w'.heap[b]?=w.heap[b]? :=fun b k j=>u.block b k j;obtain⟨p,n,s,o,r,q,m⟩:=h.block;refine⟨T,uV.at (x:={x with fo:=fo}) (rv:=rv) (gn:=gn) (cn:=cn) (gd:=gd) (gp:=gp) (gv:=gv) (E:=E) (pl:=pl) ⟨v,lJ h.rows d (fun _ c=>zr c),?_,qS h.nds d (fun _ c=>zr c),?_,?_,?_,h.ne,?_,h.tn,h.td,h.tp,h.tg⟩ t.self t.len (fun i c=>zo (t.fin i c) u.size) t.new t.gone t.put t.dirty t.rows t.fake,fun _ c=>zr c,d,fun _ c=>c⟩
 .exact tw h.own fun b a=>e b (h.own.lt b a).2 (rH h.own h.row (by decide) b a)
 .exact h.dirt.of_block (e gd h.dirt.lt (yA (tQ h.row h.dirt)))
 .exact h.puts.of_block (e gp h.puts.lt (yA (tQ h.row h.puts)))
 .exact h.secs.keep fun g l _ f=>e g (xR f) (tC f h.row (by decide))
 .exact tw h.gone fun b a=>e b (h.gone.lt b a).2 (rH h.gone h.row (by decide) b a)
def Yq (f:Fo) (k n:Nat):Prop:=37<=n/\n<k/\rL f 4 n=false/\∀m,37<=m->m<n->rL f 4 m=true
def useF (f:Fo) (n:Nat):Fo:=hasF f (ins (f.hs 0) n)
theorem SZ {x:Tx} (h:TxAt w B F gt (gf,()) x T) (hf:FsAt w gf s F1 a) (n) (hn:Yq x.fo s.k n):
 Calls prog 158 #[(gt,())] w
  (fun e w'=>e=.returned (.int .i64 n)/\uc B F gt (gf,()) {x with fo:=useF x.fo n} T w w'):=by
 have H:=za h;obtain⟨rv,gn,cn,gd,gp,gv,E,pl,I⟩:=h.lies;have HL:=za I;obtain⟨⟨gl,aq,ap,bt,bh,E',tl,FD,f1,f2,_⟩,_,_,_,_,k0,Z,_⟩:=hf;have HK:Hid (64<=s.k/\s.k<=256):=⟨k0,Z⟩;obtain⟨c0,_⟩:=rt I.row;have d0:w.cell? (gf,0)=some (.pointer (some a)):=(wM _ _ 0 _ _ _ f1).trans (lV _ _ _ _ _ _ _ 0 (by omega));have HD:=za f2;have Y:=xA c0;have O:=xA d0;obtain⟨A,N⟩:=zA (encF x.fo);have P:Hid (A.size=192):=by rw[N.o];exact uj _
 obtain⟨S,HS⟩:=zA (enc (rL x.fo 4));have L:Hid (∀W,Calls prog 201 #[.agg A] W fun e w'=>e=.returned (.agg S)/\Below W W w'):=fun W=>by rw[N.o,HS.o];exact Wm x.fo W
 have U:Hid (∀W,Calls prog 202 #[.agg S,(37:Int),s.k] W fun e w'=>e=.returned (.tuple #[n,()])/\Below W W w'):=fun W=>by rw[HS.o];have:=HK.o;exact Mw (rL x.fo 4) 37 s.k n W (by omega) (by omega) (by omega) (by omega) (by have:=hn.1;omega) (by have:=hn.2.1;omega) (by have:=hn.2.1;omega) hn.2.2.1 (fun m h1 h2=>hn.2.2.2 m (by omega) h2)
 obtain⟨R,v⟩:=zD (txR (gf,()) x.fo rv (.slice (some ⟨gn,0,none⟩) 32 cn) (.map (some gd)) (.map (some gp)) gv x.full x.fake);have V:Hid (R.size=200):=by show _=_;rw[<-v.o];exact pi _ _ _ _ _ _ _ _ _
 have J:Hid (∀j,j<A.size->R[1+j]?=A[j]?):=by rw[<-v.o,N.o];exact eK _ _ _ _ _ _ _ _ _
 obtain⟨t,q⟩:=zA (enc (x.fo.hs 0));have y:Hid (t.size=32):=by rw[q.o];exact tP _
 have Q:Hid (∀j,j<t.size->R[17+j]?=t[j]?):=by rw[<-v.o,q.o];exact iS _ _ _ _ _ _ _ _ _
 obtain⟨r,g⟩:=zA (enc (ins (x.fo.hs 0) n));have p:Hid (r.size=32):=by rw[g.o];exact tP _
 have u:Hid (r.all (·.oneCell')=true):=by rw[g.o];exact lW _
 have M:Hid (∀W,Calls prog 106 #[.agg t,n] W fun e w'=>e=.returned (.agg r)/\Below W W w'):=fun W=>by have:=iQ (x.fo.hs 0) (n:Int) W (by omega) (by have:=hn.2.1;have:=HK.o;omega);rw[yz]at this;rw[q.o,g.o];exact this
 obtain⟨R1,C⟩:=zD (txR (gf,()) (useF x.fo n) rv (.slice (some ⟨gn,0,none⟩) 32 cn) (.map (some gd)) (.map (some gp)) gv x.full x.fake);have K:Hid ((R.toList.take 17++r.toList++R.toList.drop (17+r.size)).toArray=R1):=by rw[<-v.o,g.o,<-C.o];exact KZ _ _ _ _ _ _ _ _ _ _
 have d:=I.row;rw[v.o]at d;have l:=za d;clear h I f1 f2 k0 Z hn c0 d0 d;go_enter func158,ntmps158;go_wp2_with fail
 refine wQ (by kernel_rfl) (by kernel_rfl) ?_
 repeat (first
  | go_big_quiet_skip
  | (refine V3 rfl 106 (.tmp 8) rfl gt 1 rfl 118 R A (0,0) _ (fun _ z=>Zv z l.o) J.o forT rfl (by rw[P.o];exact forI) ?_;simp only[Act.put,zK,yi,yf])
  | (refine qE 201 #[.tmp 9] #[106] rfl rfl (fun _ _=>by kernel_rfl) #[.agg A] (by kernel_rfl) (.agg S) (fun _ _=>qu) (fun w' _=>L.o w') ?_;simp only[Act.put,zK,yi,yf])
  | (refine qE 93 #[.tmp 17] #[26] rfl rfl (fun _ _=>by kernel_rfl) #[.pointer (some a)] (by kernel_rfl) (.int .i64 (s.k:Int)) (fun _ _=>qu) (fun w' z=>(mH (HD.o.below (sF z))).mono fun e w2 ⟨he,b⟩=>⟨he,b▸zB⟩) ?_;simp only[Act.put,zK,yi,yf])
  | (refine qE 202 #[.tmp 10,.const (.int .i64 37),.tmp 18] #[102,3,3] rfl rfl (fun _ _=>by kernel_rfl) #[.agg S,(37:Int),s.k] (by kernel_rfl) (.tuple #[n,()]) (fun _ _=>qu) (fun w' _=>U.o w') ?_;simp only[Act.put,zK,yi,yf])
  | (go_big_quiet_want;go_big_quiet_op;go_big_quiet_on))
 refine ve ?_;intro w1 G;have D:=za (sF G);have f:=za (wy D.o l.o);clear Y O G;go_wp2_with fail
 refine Zz 13 (by kernel_rfl) (by kernel_rfl) ?_;simp only[wZ,xH,vd,wT]
 repeat (first
  | go_big_quiet_skip
  | (refine V3 rfl 102 (.tmp 43) rfl gt 17 rfl 118 R t (0,0) _ (fun _ z=>Zv z f.o) Q.o setT rfl (by rw[y.o];exact setI) ?_;simp only[Act.put,zK,yi,yf])
  | (refine qE 106 #[.tmp 44,.tmp 45] #[102,3] rfl rfl (fun _ _=>by kernel_rfl) #[.agg t,n] (by kernel_rfl) (.agg r) (fun _ _=>qu) (fun w' _=>M.o w') ?_;simp only[Act.put,zK,yi,yf])
  | (go_big_quiet_want;go_big_quiet_op;go_big_quiet_on))
 refine ve ?_;intro w2 b;have X:=za (zf D.o (sF b));have c:=za (wy (sF b) f.o);clear b;go_wp2_with (refine jI rfl 102 (.tmp 50) (.tmp 46) rfl gt 17 r rfl rfl 118 R R1 c.o (by rw[p.o];exact setI) (by rw[p.o,V.o];omega) u.o K.o ?_)
 go_ret;refine⟨rfl,HL.o.putHas H.o (useF x.fo n) ((yQ.of_below X.o).step (yQ.setRow (F:=fun i=>i=gt) rfl _)) ?_⟩;rw[C.o];exact yh _ _ _ _ _ _ c.o
theorem mz: prog.underlying 109=some (.map 3 56):=by kernel_rfl
theorem u8sZ: ∀w,(zeroValue 56).run prog w=.ok (.slice none 0 0) w:=(te (P:=prog) (t:=56) (v:=.slice none 0 0) (n:=1) (by kernel_rfl)).1
def secE (s:Fs) (n:Nat):List Int:=(getZ s.todo n).getD (sec s.dk.N n)
theorem nw {d lg:Value} {tv hv:Value} (h:w.heap[gf]?=some (.cells (fsR d lg fo rv nv tv hv) t fr)):
 w.cell? (gf,0)=some d/\w.cell? (gf,1)=some lg/\w.cell? (gf,194)=some rv/\w.cell? (gf,195)=some nv/\w.cell? (gf,196)=some tv/\w.cell? (gf,197)=some hv:=
 have c:=fun i (a:i<198)=>(wM _ _ i _ _ _ h).trans (lV d lg fo rv nv tv hv i a)
 ⟨c 0 (by omega),c 1 (by omega),c 194 (by omega),c 195 (by omega),c 196 (by omega),c 197 (by omega)⟩
theorem KN (h:FsAt w gf s F a) (n) (hn:n<s.k):
 Calls prog 179 #[(gf,()),.int .i64 n] w (Vp (secE s n) w):=by
 obtain⟨⟨Z,rv,nv,bt,bh,E,tl,FD,u,t,Q,I,K,T,J,P,U,d,f,m,g,i,p,q,j⟩,V,W,L,O,M,R,H⟩:=h;obtain⟨c0,_,_,_,S,_⟩:=nw u;have b:=d.look_ok (k:=(n:Int)) intT mz (u8sZ w) (by unfold InZ;omega);have y:=za (Zb t n hn);rcases f.sec.get (k:=(n:Int)) with⟨r,l⟩|⟨v,D,r,l,C⟩
 .unfold hasZ at b;rw[r]at b;have B:Hid (secE s n=sec s.dk.N n):=by show _=_;unfold secE;rw[l];rfl
  rw[show ((none:Option Value).getD (.slice none 0 0))=.slice none 0 0 from rfl,show ((none:Option Value).isSome)=false from rfl]at b;clear u t Q I K T J P U d f m g i p q j V W L O M R H r l;go_enter func179,ntmps179;go_wp2_with fail
  refine y.o.mono ?_;rintro e X ⟨x,rfl,c⟩;have A:=za c;clear c;go_wp2;go_ret2;rw[B.o];exact⟨x,rfl,A.o⟩
 .unfold hasZ at b;rw[r]at b;have B:Hid (secE s n=D):=by show _=_;unfold secE;rw[l];rfl
  rw[show ((some v).getD (.slice none 0 0))=v from rfl,show ((some v).isSome)=true from rfl]at b;have G:D.length=64:=by obtain⟨_,_,_,_,Y,_⟩:=C;exact Y
  have z:=za (Zt v D w C.at (by omega) (by omega));clear u t Q I K T J P U d f m g i p q j V W L O M R H r l C;go_enter func179,ntmps179;go_wp2_with fail
  refine z.o.mono ?_;rintro e X ⟨x,rfl,c⟩;have A:=za c;clear c;go_wp2;go_ret2;rw[B.o];exact⟨x,rfl,A.o⟩
def secT (x:Tx) (s:Fs) (n:Nat):List Int:=(getZ x.put n).getD (secE s n)
def rj (x:Tx) (s:Fs) (P:List Int) (k:Nat):List Int:=if P.getD k 0=0 then List.replicate 64 0 else secT x s (P.getD k 0).toNat
theorem l7.bump {D:List Int} {w1:World} {e:Ending} (l:Below w w w1) (h:l7 D w1 e w'):l7 D w e w':=by obtain⟨v,d,g,b,a,i,c,k,f,j⟩:=h;exact⟨v,d,g,b,a,i,⟨zt l.size c.1,c.2⟩,k,f,zf l j⟩
theorem uV.putMap {x:Tx} (h:uV w B F T gt fp x rv gn cn gd gp gv E pl) (A:TxAt w B F gt fp x T) (p) (v) (D)
 (C:sJ w B v D) (G:yQ (fun i=>i=gp) w w') (H:MapL prog 3 w' gp (putZ pl p v)) (I:x.put.length<1000):TxAt w' B F gt fp {x with put:=putZ x.put p D} T:=by
 have e:yQ T w w':=G.mono fun i _ c=>by rw[c];exact h.tp
 have d:∀b,b<w.heap.size->b≠gp->w'.heap[b]?=w.heap[b]? :=fun b o k=>G.block b o k;obtain⟨s,n,z,r,y,t,q⟩:=h.block;refine uV.at (x:={x with put:=putZ x.put p D}) (rv:=rv) (gn:=gn) (cn:=cn) (gd:=gd) (gp:=gp) (gv:=gv) (E:=E) (pl:=putZ pl p v) ⟨(d gt (xR h.row) (tQ h.row h.puts)).trans h.row,lJ h.rows e (fun _ c=>zr c),?_,qS h.nds e (fun _ c=>zr c),?_,H,?_,h.ne,?_,h.tn,h.td,h.tp,h.tg⟩ A.self A.len (fun i c=>zo (A.fin i c) G.size) A.new A.gone (zt (oy _ _ _) I) A.dirty A.rows A.fake
 .exact tw h.own fun b a=>d b (h.own.lt b a).2 (by injection a with a;rw[<-a];exact tQ n h.puts)
 .exact h.dirt.of_block (d gd h.dirt.lt h.ne)
 .exact tu.put (Z9 C fun g l _ f=>d g (xR f) (tQ f h.puts)) (h.secs.keep fun g l _ f=>d g (xR f) (tQ f h.puts))
 .refine tw h.gone fun b a=>d b (h.gone.lt b a).2 ?_;obtain⟨_,⟨C,_⟩|⟨g,u,m,C,_,j,_⟩⟩:=id h.gone
  .rw[C]at a;cases a
  .rw[C]at a;injection a with a;rw[<-a];exact tQ j h.puts
theorem YJ {R:Array Value} {dv pv:Value} {full:Bool} {fake:Int} (b:R.size=200) (h:∀i,i<200->R[i]?=some (pT fp fo rv nv dv pv gv full fake i)):R=txR fp fo rv nv dv pv gv full fake:=by
 apply xa;intro i;by_cases a:i<200
 .rw[h i a,qt _ _ _ _ _ _ _ _ _ _ a]
 .rw[yd (by omega),yd (by rw[pi];omega)]
theorem S8 (fp) (fo) (rv nv dv pv gv) (full b) (fake f2):((txR fp fo rv nv dv pv gv full fake).setIfInBounds 198 (.bool b)).setIfInBounds 199 (.int .i64 f2)=txR fp fo rv nv dv pv gv b f2:=by
 refine YJ (by simp[pi]) fun i d=>?_;rw[yM,yM,wk,pi,qt _ _ _ _ _ _ _ _ _ _ d];unfold pT;by_cases c:199=i
 .subst c;rfl
 .rw[zb c];by_cases a:198=i
  .subst a;rfl
  .rw[zb a];by_cases f:i<198
   .have e:¬i=198:=(by omega);simp only[e,vX]
    repeat (first|rfl|(split;rfl))
    omega
   .omega
def jx (f:Fo) (k:Nat):Option Nat:=(List.range k).find? fun n=>decide (37<=n)&&!rL f 4 n
theorem UW {n:Nat} (h:jx f k=some n):Yq f k n:=by unfold jx at h;rw[List.find?_range_eq_some]at h;obtain⟨a,c,e⟩:=h;simp only[yL,xw,vZ]at a;refine⟨a.1,yH.1 c,a.2,fun m d b=>?_⟩;have:=e m b;simpa[d]using this
theorem Ld (h:jx f k=none) (m) (a:37<=m) (b:m<k):rL f 4 m=true:=by unfold jx at h;rw[List.find?_eq_none]at h;have:=h m (yH.2 b);simpa[a]using this
structure Ow where
 fo:Fo
 fl:Bool
 fk:Int
def qB (o:Ow) (k:Nat):Int×Ow:=match jx o.fo k with
 | some n=>(n,{o with fo:=useF o.fo n})
 | none=>(o.fk+1,{o with fl:=true,fk:=o.fk+1})
def ownU (o:Ow) (k:Nat) (p:Int):Int×Ow:=
 if p=0 then qB o k else if p<256/\ta o.fo 4 p.toNat=true then qB {o with fo:=hasF o.fo (del (o.fo.hs 0) p.toNat)} k else (p,o)
def Tx.ow (x:Tx):Ow:=⟨x.fo,x.full,x.fake⟩
def Tx.wow (x:Tx) (o:Ow):Tx:={x with fo:=o.fo,full:=o.fl,fake:=o.fk}
theorem uV.withFull {x:Tx} (h:uV w B F T gt fp x rv gn cn gd gp gv E pl) (m:TxAt w B F gt fp x T) {b:Bool} {f2:Int}
 (n:yQ (fun i=>i=gt) w w') (o:w'.heap[gt]?=some (.cells (txR fp x.fo rv (.slice (some ⟨gn,0,none⟩) 32 cn) (.map (some gd)) (.map (some gp)) gv b f2) 118)) (p:0<=f2/\f2<=1000000):uc B F gt fp {x with full:=b,fake:=f2} T w w':=by
 have d:yQ T w w':=n.mono fun i _ c=>by rw[c];exact m.self
 have e:∀b,b<w.heap.size->b≠gt->w'.heap[b]?=w.heap[b]? :=fun b k j=>n.block b k j;refine⟨T,uV.at (x:={x with full:=b,fake:=f2}) (rv:=rv) (gn:=gn) (cn:=cn) (gd:=gd) (gp:=gp) (gv:=gv) (E:=E) (pl:=pl) ⟨o,lJ h.rows d (fun _ c=>zr c),?_,qS h.nds d (fun _ c=>zr c),?_,?_,?_,h.ne,?_,h.tn,h.td,h.tp,h.tg⟩ m.self m.len (fun i c=>zo (m.fin i c) n.size) m.new m.gone m.put m.dirty m.rows p,fun _ c=>zr c,d,fun _ c=>c⟩
 .exact tw h.own fun b a=>e b (h.own.lt b a).2 (rH h.own h.row (by decide) b a)
 .exact h.dirt.of_block (e gd h.dirt.lt (yA (tQ h.row h.dirt)))
 .exact h.puts.of_block (e gp h.puts.lt (yA (tQ h.row h.puts)))
 .exact h.secs.keep fun g l _ f=>e g (xR f) (tC f h.row (by decide))
 .exact tw h.gone fun b a=>e b (h.gone.lt b a).2 (rH h.gone h.row (by decide) b a)
theorem Pg {x:Tx} (h:TxAt w B F gt (gf,()) x T) (hf:FsAt w gf s F1 a) (hn:∀m,37<=m->m<s.k->rL x.fo 4 m=true) (aa:x.fake<1000000):
 Calls prog 158 #[(gt,())] w
  (fun e w'=>e=.returned (.int .i64 (x.fake+1))/\uc B F gt (gf,()) {x with full:=true,fake:=x.fake+1} T w w'):=by
 have H:=za h;have u:Hid (0<=x.fake/\x.fake<1000000):=⟨h.fake.1,aa⟩;obtain⟨Y,gn,cn,X,Q,P,E,pl,z⟩:=h.lies;have HL:=za z;obtain⟨⟨gl,ai,af,bt,bh,E',tl,FD,U,f2,_⟩,_,_,_,_,V,O,_⟩:=hf;have HK:Hid (64<=s.k/\s.k<=256):=⟨V,O⟩;obtain⟨c0,_⟩:=rt z.row;have Z:w.cell? (gf,0)=some (.pointer (some a)):=(wM _ _ 0 _ _ _ U).trans (lV _ _ _ _ _ _ _ 0 (by omega));have HD:=za f2;have N:=xA c0;have J:=xA Z;obtain⟨A,I⟩:=zA (encF x.fo);have L:Hid (A.size=192):=by rw[I.o];exact uj _
 obtain⟨S,HS⟩:=zA (enc (rL x.fo 4));have G:Hid (∀W,Calls prog 201 #[.agg A] W fun e w'=>e=.returned (.agg S)/\Below W W w'):=fun W=>by rw[I.o,HS.o];exact Wm x.fo W
 have M:Hid (∀W,Calls prog 202 #[.agg S,(37:Int),s.k] W fun e w'=>e=.returned (.tuple #[(),(6:Int)])/\Below W W w'):=fun W=>by rw[HS.o];have:=HK.o;exact Mx (rL x.fo 4) 37 s.k W (by omega) (by omega) (by omega) (by omega) (fun m h1 h2 _=>hn m (by omega) (by omega))
 obtain⟨R,y⟩:=zD (txR (gf,()) x.fo Y (.slice (some ⟨gn,0,none⟩) 32 cn) (.map (some X)) (.map (some Q)) P x.full x.fake);have C:Hid (∀j,j<A.size->R[1+j]?=A[j]?):=by rw[<-y.o,I.o];exact eK _ _ _ _ _ _ _ _ _
 have f:=z.row;rw[y.o]at f;have g:=za f;have v:Hid (R[198]?=some (.bool x.full)/\R[199]?=some (.int .i64 x.fake)):=by show _/\_;rw[<-y.o];exact⟨qt _ _ _ _ _ _ _ _ _ 198 (by omega),qt _ _ _ _ _ _ _ _ _ 199 (by omega)⟩
 have l:Hid ((R.setIfInBounds 198 (.bool true)).setIfInBounds 199 (.int .i64 (x.fake+1))=txR (gf,()) x.fo Y (.slice (some ⟨gn,0,none⟩) 32 cn) (.map (some X)) (.map (some Q)) P true (x.fake+1)):=by show _=_;rw[<-y.o];exact S8 _ _ _ _ _ _ _ _ _ _ _
 clear h z U f2 V O hn c0 Z f;go_enter func158,ntmps158;go_wp2_with fail
 refine wQ (by kernel_rfl) (by kernel_rfl) ?_
 repeat (first
  | go_big_quiet_skip
  | (refine V3 rfl 106 (.tmp 8) rfl gt 1 rfl 118 R A (0,0) _ (fun _ K=>Zv K g.o) C.o forT rfl (by rw[L.o];exact forI) ?_;simp only[Act.put,zK,yi,yf])
  | (refine qE 201 #[.tmp 9] #[106] rfl rfl (fun _ _=>by kernel_rfl) #[.agg A] (by kernel_rfl) (.agg S) (fun _ _=>qu) (fun w' _=>G.o w') ?_;simp only[Act.put,zK,yi,yf])
  | (refine qE 93 #[.tmp 17] #[26] rfl rfl (fun _ _=>by kernel_rfl) #[.pointer (some a)] (by kernel_rfl) (.int .i64 (s.k:Int)) (fun _ _=>qu) (fun w' K=>(mH (HD.o.below (sF K))).mono fun e w2 ⟨he,D⟩=>⟨he,D▸zB⟩) ?_;simp only[Act.put,zK,yi,yf])
  | (refine qE 202 #[.tmp 10,.const (.int .i64 37),.tmp 18] #[102,3,3] rfl rfl (fun _ _=>by kernel_rfl) #[.agg S,(37:Int),s.k] (by kernel_rfl) (.tuple #[(),(6:Int)]) (fun _ _=>qu) (fun w' _=>M.o w') ?_;simp only[Act.put,zK,yi,yf])
  | (go_big_quiet_want;go_big_quiet_op;go_big_quiet_on))
 refine ve ?_;intro n t;have r:=za (sF t);have d:=za (wy r.o g.o);clear N J t;have z8:n.frozen? (gt,198)=false:=zF d.o;have y8:=(zC d.o).trans v.o.1;have b:(n.setCell (gt,198) (.bool true)).heap[gt]?=some (.cells (R.setIfInBounds 198 (.bool true)) 118):=yb _ _ 198 _ _ _ d.o;have z9:(n.setCell (gt,198) (.bool true)).frozen? (gt,199)=false:=zF b;have y9:(n.setCell (gt,198) (.bool true)).cell? (gt,199)=some (.int .i64 x.fake):=(zC b).trans (by rw[yM,zb (by omega)];exact v.o.2);have c:((n.setCell (gt,198) (.bool true)).setCell (gt,199) (.int .i64 (x.fake+1))).heap[gt]?=some (.cells ((R.setIfInBounds 198 (.bool true)).setIfInBounds 199 (.int .i64 (x.fake+1))) 118):=yb _ _ 199 _ _ _ b;have ag:((n.setCell (gt,198) (.bool true)).setCell (gt,199) (.int .i64 (x.fake+1))).cell? (gt,199)=some (.int .i64 (x.fake+1)):=(zC c).trans (by rw[l.o];exact qt _ _ _ _ _ _ _ _ _ 199 (by omega));have q:=za c;have i1:IntKind.i64.wrap (x.fake+1)=x.fake+1:=zQ _ (by have:=u.o;omega);clear b c;go_wp2;go_ret;have hk:yQ (fun i=>i=gt) w ((n.setCell (gt,198) (.bool true)).setCell (gt,199) (.int .i64 (x.fake+1))):=((yQ.of_below r.o).step (yQ.setCell (F:=fun i=>i=gt) (p:=⟨gt,198,none⟩) rfl _)).step (yQ.setCell (F:=fun i=>i=gt) (p:=⟨gt,199,none⟩) rfl _);refine⟨rfl,HL.o.withFull H.o hk ?_ (by have:=u.o;omega)⟩;rw[q.o,l.o]
theorem Wj {x:Tx} (h:TxAt w B F gt (gf,()) x T) (f:FsAt w gf s F1 a) (d:x.fake<1000000):
 Calls prog 158 #[(gt,())] w
  (fun e w'=>e=.returned (.int .i64 (qB x.ow s.k).1)/\uc B F gt (gf,()) (x.wow (qB x.ow s.k).2) T w w'):=by
 have c:x.ow.fo=x.fo:=rfl;unfold qB;rw[c];cases b:jx x.fo s.k with
 | some n=>exact SZ h f n (UW b)
 | none=>exact Pg h f (Ld b) d
def cutF (f:Fo):Fo:=⟨f.nd,fun k n=>decide (n<256)&&f.hs k n⟩
theorem QP (f):encF (cutF f)=encF f:=by
 unfold encF
 congr 1
 funext i
 have b:=sr i.val (show 48 > 0 by omega);unfold uU;split
 .rfl
 .rw[show tN ((cutF f).hs (i.val / 48)) (i.val%48-16)=tN (f.hs (i.val / 48)) (i.val%48-16) from VY fun j a=>by show (decide _&&_)=_;rw[ya (by omega),uf]]
theorem NB (f) (n:Nat) (b:256<=n) (w):
 Calls prog 159 #[.agg (encF f),n] w fun e w'=>e=.returned (.bool false)/\Below w w w':=by
 have a:∀k,(cutF f).hs k n=false:=fun k=>by show (decide _&&_)=_;rw[zz (by omega)];rfl
 have:=JL (cutF f) _ rfl n (zu a) w;rw[QP,l8]at this;simp only[a,ik,Bool.or_false]at this;exact this
theorem YH {x:Tx} (hf:FsAt w0 gf s F1 a) (hb:Below w0 w0 w) (h:TxAt w w0 F gt (gf,()) x T) (ah:x.fake<1000000) (p) (hp:0<=p/\p<=1000000):
 Calls prog 118 #[(gt,()),.int .i64 p] w
  (fun e w'=>e=.returned (.int .i64 (ownU x.ow s.k p).1)/\uc w0 F gt (gf,()) (x.wow (ownU x.ow s.k p).2) T w w'):=by
 obtain⟨n,rfl⟩:=wv hp.1;by_cases ab:n=0
 .subst ab;have HC:=za (Wj h (hf.below hb) ah);clear h hf hp ah hb;go_enter func118,ntmps118;go_wp2_with fail
  refine HC.o.mono ?_;rintro e w' ⟨rfl,b⟩;have H2:=za b;clear b;go_wp2;go_ret;exact⟨rfl,H2.o⟩
 have H:=za h;have Y:Hid (∀(W) (D),D.fake<1000000->uc w0 F gt (gf,()) D T w W->Calls prog 158 #[(gt,())] W
  (fun e w'=>e=.returned (.int .i64 (qB D.ow s.k).1)/\uc w0 F gt (gf,()) (D.wow (qB D.ow s.k).2) T w w')):=fun W D h1 hd=>by
  obtain⟨T1,t1,t2,t3,t4⟩:=id hd;refine (Wj t1 (hf.below (hd.old hb h)) h1).mono fun e w' ⟨a1,a3⟩=>⟨a1,?_⟩;obtain⟨T2,u1,u2,u3,u4⟩:=a3;refine⟨T2,u1,fun i y=>?_,t3.trans u3 t2,fun i y=>u4 i (t4 i y)⟩;rcases u2 i y with y|y
  .exact t2 i y
  .exact zu (zt t3.size y)
 have aa:=za ah;obtain⟨rv,gn,cn,gd,gp,gv,E,pl,hl⟩:=h.lies;have HL:=za hl;obtain⟨A,S⟩:=zA (encF x.fo);have ai:Hid (A.size=192):=by rw[S.o];exact uj _
 obtain⟨z,Q⟩:∃z,Hid ((z=true/\ta x.fo 4 n=true/\n<256)\/(z=false/\(ta x.fo 4 n=false\/256<=n))):=by
  by_cases c:n<256
  .cases hq:ta x.fo 4 n with
   | true=>exact⟨true,zr ⟨rfl,rfl,c⟩⟩
   | false=>exact⟨false,zu ⟨rfl,zr rfl⟩⟩
  .exact⟨false,zu ⟨rfl,zu (by omega)⟩⟩
 have af:Hid (∀W,Calls prog 159 #[.agg A,n] W fun e w'=>e=.returned (.bool z)/\Below W W w'):=fun W=>by
  rw[S.o];by_cases c:n<256
  .have:=Px x.fo n c W;rcases Q.o with⟨rfl,b,_⟩|⟨rfl,b⟩
   .rw[b]at this;exact this
   .rw[b.resolve_right (by omega)]at this;exact this
  .rcases Q.o with⟨_,_,b⟩|⟨rfl,_⟩
   .omega
   .exact NB x.fo n (by omega) W
 obtain⟨R,N⟩:=zD (txR (gf,()) x.fo rv (.slice (some ⟨gn,0,none⟩) 32 cn) (.map (some gd)) (.map (some gp)) gv x.full x.fake);have V:Hid (R.size=200):=by show _=_;rw[<-N.o];exact pi _ _ _ _ _ _ _ _ _
 have ac:Hid (∀j,j<A.size->R[1+j]?=A[j]?):=by rw[<-N.o,S.o];exact eK _ _ _ _ _ _ _ _ _
 obtain⟨C,u⟩:=zA (enc (x.fo.hs 0));have I:Hid (C.size=32):=by rw[u.o];exact tP _
 have U:Hid (∀j,j<C.size->R[17+j]?=C[j]?):=by rw[<-N.o,u.o];exact iS _ _ _ _ _ _ _ _ _
 obtain⟨B,m⟩:=zA (enc (del (x.fo.hs 0) n));have r:Hid (B.size=32):=by rw[m.o];exact tP _
 have M:Hid (B.all (·.oneCell')=true):=by rw[m.o];exact lW _
 have ae:Hid (n<256->∀W,Calls prog 119 #[.agg C,n] W fun e w'=>e=.returned (.agg B)/\Below W W w'):=fun c W=>by have:=JD (x.fo.hs 0) (n:Int) W (by omega) (by omega);rw[yz]at this;rw[u.o,m.o];exact this
 obtain⟨O,J⟩:=zD (txR (gf,()) (hasF x.fo (del (x.fo.hs 0) n)) rv (.slice (some ⟨gn,0,none⟩) 32 cn) (.map (some gd)) (.map (some gp)) gv x.full x.fake);have ad:Hid ((R.toList.take 17++B.toList++R.toList.drop (17+B.size)).toArray=O):=by rw[<-N.o,m.o,<-J.o];exact KZ _ _ _ _ _ _ _ _ _ _
 have l:=hl.row;rw[N.o]at l;have q:=za l;have G:Hid ((n:Int)≠0):=za (by omega);have b0:(n==0)=false:=by simp;omega
 have b1:((n:Int)==0)=false:=by simp;omega
 have b2:¬n=0:=by omega
 clear h hl hf hp ah l hb;go_enter func118,ntmps118;go_wp2_with (refine pZ (by kernel_rfl) 106 (.tmp 11) rfl gt 1 rfl 118 R A (0,0) _ q.o ac.o forT rfl (by rw[ai.o];exact forI) ?_)
 refine (af.o w).mono ?_;cases z with
 | false=>
  rintro e w' ⟨rfl,hb⟩;have HB:=za hb;clear hb;go_wp2;go_ret;have e:ownU x.ow s.k n=((n:Int),x.ow):=by
   unfold ownU;rw[zb G.o,zb];rintro ⟨h1,b⟩;rw[yz]at b;rcases Q.o with⟨h0,_⟩|⟨_,P⟩
   .cases h0
   .rcases P with P|P
    .rw[show x.ow.fo=x.fo from rfl,P]at b;cases b
    .omega
  rw[e];exact⟨rfl,uc.same H.o HB.o⟩
 | true=>
  rintro e w1 ⟨rfl,hb⟩;have L:=za hb;have f:=za (wy L.o q.o);have v:Hid (ta x.fo 4 n=true/\n<256):=by
   rcases Q.o with⟨_,b⟩|⟨h0,_⟩
   .exact b
   .cases h0
  clear hb;go_wp2_with fail
  refine Zz 13 (by kernel_rfl) (by kernel_rfl) ?_;simp only[wZ,xH,vd,wT]
  repeat (first
   | go_big_quiet_skip
   | (refine V3 rfl 102 (.tmp 20) rfl gt 17 rfl 118 R C (0,0) _ (fun _ hw=>Zv hw f.o) U.o setT rfl (by rw[I.o];exact setI) ?_;simp only[Act.put,zK,yi,yf])
   | (refine qE 119 #[.tmp 21,.tmp 22] #[102,3] rfl rfl (fun _ _=>by kernel_rfl) #[.agg C,n] (by kernel_rfl) (.agg B) (fun _ _=>qu) (fun w' _=>ae.o v.o.2 w') ?_;simp only[Act.put,zK,yi,yf])
   | (go_big_quiet_want;go_big_quiet_op;go_big_quiet_on))
  refine ve ?_;intro w2 t;have Z:=za (zf L.o (sF t));have g:=za (wy (sF t) f.o);clear t;go_wp2_with (refine jI rfl 102 (.tmp 27) (.tmp 23) rfl gt 17 B rfl rfl 118 R O g.o (by rw[r.o];exact setI) (by rw[r.o,V.o];omega) M.o ad.o ?_)
  have d:(w2.setRow gt O).heap[gt]?=some (.cells O 118):=yh _ _ _ _ _ _ g.o;have K:=HL.o.putHas H.o _ ((yQ.of_below Z.o).step (yQ.setRow (F:=fun i=>i=gt) rfl _)) (by rw[J.o];exact d);have e:ownU x.ow s.k n=qB ({x with fo:=hasF x.fo (del (x.fo.hs 0) n)}).ow s.k:=by unfold ownU;rw[zb G.o,ze ⟨by have:=v.o.2;omega,by rw[yz];exact v.o.1⟩,yz];rfl
  refine (Y.o _ {x with fo:=hasF x.fo (del (x.fo.hs 0) n)} aa.o K).mono ?_;have HE:=za e;clear e;rintro e w4 ⟨rfl,b⟩;have X:=za b;clear b K d;go_wp2;go_ret;rw[HE.o];exact⟨rfl,X.o⟩
