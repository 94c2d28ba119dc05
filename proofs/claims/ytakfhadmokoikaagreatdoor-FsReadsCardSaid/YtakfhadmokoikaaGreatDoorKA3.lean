import Derived.Test.YtakfhadmokoikaaGreatDoorKA2
import Derived.Laws.CopyRow
import Derived.StillTailTactics
import Derived.Laws.CopyOwn
import Derived.Lib.Hide
set_option maxHeartbeats 0
set_option linter.all false
set_option maxRecDepth 100000
namespace Go.Proofs.YtakfhadmokoikaaGreatDoor
open Go.RowKit
variable {D l:List Int} {Q:Exit->Act->World->Prop} {X:Prop} {a:Act} {base g k n size:Nat} {c:Array Value} {d v:Value} {e t:TypeId} {fr:Nat×Nat} {o:Oper} {ops:Array Oper} {w:World} {xs:List Value}
section
variable {P : Program}
theorem K5 (w:World) (g off:Nat) (t ty:TypeId) (cs A:Array Value) (fr:Nat×Nat) (d:TypeDesc) (hg:w.heap[g]?=some (.cells cs t fr)) (hA:∀j,j<A.size->cs[off+j]?=A[j]?)
 (hu:P.underlying ty=some d) (hd:(match d with|.struct _|.array _ _=>true|_=>false)=true) (hi:(P.info? ty).map (·.size)=some A.size):
 (loadVar ty ⟨g,off,none⟩).run P w=.ok (.agg A) w:=by
 have e:(loadCells ⟨g,off,none⟩ A.toList.length).run P w=.ok A.toList.toArray w:=
  si (P:=P) w ⟨g,off,none⟩ A.toList (fun j v f=>by have a:(⟨g,off,none⟩:Addr).add j=⟨g,off+j,none⟩:=(by unfold Addr.add;split<;>simp_all);have h:=(zy.1 f).1;rw[a,xR w g _ cs t fr hg,hA j (by simpa using h)];simpa using f)
 cases c:P.info? ty with
 | none=>simp[c]at hi
 | some i=>
  have k:i.size=A.size:=by simpa[c]using hi
  have b:(isAgg ty).run P w=.ok true w:=by unfold isAgg;rw[xI,wy hu w];cases d<;>simp_all
  simp only[yp,Array.toArray_toList]at e;simp[loadVar,xI,b,sizeOf,typeInfo,c,k,e]
theorem MW {o:Oper} {a:Act} {w:World} {K:Act->World->Prop} {Q:Exit->Act->World->Prop} (ty:TypeId) (x:Operand) (ho:o.op=.load ty x)
 (g off:Nat) (hx:a.eval x=.pointer (some (g,off))) (t:TypeId) (cs A:Array Value) (fr:Nat×Nat) (d:TypeDesc) (hg:w.heap[g]?=some (.cells cs t fr)) (hA:∀j,j<A.size->cs[off+j]?=A[j]?)
 (hu:P.underlying ty=some d) (hd:(match d with|.struct _|.array _ _=>true|_=>false)=true) (hi:(P.info? ty).map (·.size)=some A.size)
 (h:K (a.put o.dst (.agg A)) w):o.wp P a w K Q:=by
 unfold Oper.wp execOp;simp only[ho,hx,Instr.loadAt,Instr.sureAddr,xI,uE,yX,K5 w g off t ty cs A fr d hg hA hu hd hi];exact h
theorem pR {ops:Array Oper} {rest:List Oper} {o:Oper} {a:Act} {w:World} {Q:Exit->Act->World->Prop} (hw:Region.wanted o (yielded ops a.tmps)=true) (ty:TypeId) (x:Operand) (ho:o.op=.load ty x)
 (g off:Nat) (hx:a.eval x=.pointer (some (g,off))) (t:TypeId) (cs A:Array Value) (fr:Nat×Nat) (d:TypeDesc) (hg:w.heap[g]?=some (.cells cs t fr)) (hA:∀j,j<A.size->cs[off+j]?=A[j]?)
 (hu:P.underlying ty=some d) (hd:(match d with|.struct _|.array _ _=>true|_=>false)=true) (hi:(P.info? ty).map (·.size)=some A.size)
 (h:wpList P ops Q rest (a.put o.dst (.agg A)) w):wpList P ops Q (o::rest) a w:=
 KI hw fun _ b=>MW ty x ho g off hx t cs A fr d hg hA hu hd hi (b _ _ h)
theorem Gd (w:World) (g d:Nat) (t f:TypeId) (e A B:Array Value) (j:w.heap[g]?=some (.cells e t)) (h:(P.info? f).map (·.size)=some A.size)
 (l:d+A.size<=e.size) (k:A.all (·.oneCell')=true) (hB:(e.toList.take d++A.toList++e.toList.drop (d+A.size)).toArray=B):
 (storeVar f ⟨g,d,none⟩ (.agg A)).run P w=.ok () (w.setRow g B):=by
 have:=vE P g d t A.toList 0 e w j (by simp;omega) (fun v b=>(xZ.1 k) v (by simpa using b));simp only[vA,yp]at this;rw[hB]at this;cases a:P.info? f with
 | none=>simp[a]at h
 | some i=>
  have c:A.size=i.size:=by simp[a]at h;omega
  simp[storeVar,sizeOf,typeInfo,a,Value.cells,c,this]
theorem Iy {K:Act->World->Prop} (e:TypeId) (x y:Operand) (f:o.op=.store e x y)
 (g b:Nat) (A:Array Value) (i:a.eval x=.pointer (some (g,b))) (j:a.eval y=.agg A)
 (t:TypeId) (c B:Array Value) (k:w.heap[g]?=some (.cells c t)) (l:(P.info? e).map (·.size)=some A.size)
 (d:b+A.size<=c.size) (m:A.all (·.oneCell')=true) (hB:(c.toList.take b++A.toList++c.toList.drop (b+A.size)).toArray=B)
 (h:K (a.put o.dst undef) (w.setRow g B)):o.wp P a w K Q:=by
 unfold Oper.wp execOp;simp only[f,i,j,Instr.storeAt,Instr.sureAddr,xI,uE,yX,Gd w g b t e c A B k l d m hB];exact h
theorem jr {rest:List Oper} (f:o.guard=none) (i:TypeId) (x y:Operand) (j:o.op=.store i x y)
 (g c:Nat) (A:Array Value) (k:a.eval x=.pointer (some (g,c))) (l:a.eval y=.agg A)
 (t:TypeId) (d B:Array Value) (m:w.heap[g]?=some (.cells d t)) (n:(P.info? i).map (·.size)=some A.size)
 (e:c+A.size<=d.size) (p:A.all (·.oneCell')=true) (hB:(d.toList.take c++A.toList++d.toList.drop (c+A.size)).toArray=B)
 (h:wpList P ops Q rest (a.put o.dst undef) (w.setRow g B)):wpList P ops Q (o::rest) a w:=
 uX f fun _ b=>Iy i x y j g c A k l t d B m n e p hB (b _ _ h)
theorem IX {ops:Array Oper} {w:World} {Q:Act->Prop} {rest:List Oper} {o:Oper} {a:Act} (hw:Region.wanted o (yielded ops a.tmps)=true) (ty:TypeId) (x:Operand) (ho:o.op=.load ty x)
 (g off:Nat) (hx:a.eval x=.pointer (some (g,off))) (t:TypeId) (cs A:Array Value) (fr:Nat×Nat) (d:TypeDesc) (hg:w.heap[g]?=some (.cells cs t fr)) (hA:∀j,j<A.size->cs[off+j]?=A[j]?)
 (hu:P.underlying ty=some d) (hd:(match d with|.struct _|.array _ _=>true|_=>false)=true) (hi:(P.info? ty).map (·.size)=some A.size)
 (h:wpStill P ops w Q rest (a.put o.dst (.agg A))):wpStill P ops w Q (o::rest) a:=by
 unfold wpStill;rw[ze hw];unfold Oper.still execOp;simp only[ho,hx,Instr.loadAt,Instr.sureAddr,xI,uE,yX,K5 w g off t ty cs A fr d hg hA hu hd hi];exact⟨rfl,h⟩
theorem SJ (A:Array Value):∀j,j<A.size->A[0+j]?=A[j]? :=fun j _=>by rw[yL]
end
theorem ret_i {k:IntKind} {a b:Int} (h:a=b):Ending.returned (.int k a)=.returned (.int k b):=by rw[h]
structure yK (F:Nat->Prop) (w w':World):Prop where
 os:w'.os=w.os
 tape:w'.tape=w.tape
 output:w'.output=w.output
 size:w.heap.size<=w'.heap.size
 block:∀i,i<w.heap.size->¬F i->w'.heap[i]?=w.heap[i]?
section
variable {F F1 : Nat->Prop} {w w1 w2 w' : World}
theorem yK.refl (F:Nat->Prop) (w:World):yK F w w:=⟨rfl,rfl,rfl,zL,fun _ _ _=>rfl⟩
theorem yK.of_below (h:Below w w w'):yK F w w':=⟨h.os,h.tape,h.output,h.size,fun i a _=>h.block i a⟩
theorem yK.trans (h:yK F w w1) (k:yK F1 w1 w2) (e:∀i,F1 i->F i\/w.heap.size<=i):yK F w w2:=
 ⟨k.os.trans h.os,k.tape.trans h.tape,k.output.trans h.output,zr h.size k.size,fun i b c=>
  (k.block i (zm b h.size) (fun d=>by
   rcases e i d with a|a
   .exact c a
   .omega)).trans (h.block i b c)⟩
theorem yK.step (h:yK F w w1) (k:yK F w1 w2):yK F w w2:=h.trans k fun _ a=>zt a
theorem yK.mono (h:yK F w w') (d:∀i,i<w.heap.size->F i->F1 i):yK F1 w w':=
 ⟨h.os,h.tape,h.output,h.size,fun i a c=>h.block i a fun b=>c (d i a b)⟩
theorem yK.setRow (b:F g) (cs:Array Value):yK F w (w.setRow g cs):=
 ⟨rfl,rfl,rfl,by simp,fun i _ a=>yZ w g i cs (fun e=>a (by rw[e];exact b))⟩
theorem yK.setCell {p:Addr} (b:F p.block) (u:Value):yK F w (w.setCell p u):=
 ⟨rfl,rfl,rfl,by simp[World.setCell],fun i _ a=>yC w p u i (fun e=>a (by rw[e];exact b))⟩
theorem yK.alloc (o:Obj):yK F w (w.alloc o):=yK.of_below (zB.alloc zL _)
theorem yK.drew (h:yK F w w'):yK F w w'.drew:=⟨h.os,h.tape,h.output,h.size,h.block⟩
theorem yK.grown {row:Option Nat} (h:w.grownBy w' row) (c:∀r,row=some r->F r):yK F w w':=
 ⟨h.os,h.tape,h.output,h.size,fun i a b=>h.block i a (fun e=>b (c i e.symm))⟩
theorem yK.to_below {B:Nat} (h:yK F w w') (c:∀i,F i->B<=i) (hB:B<=w.heap.size):Below B w w':=
 ⟨h.os,h.tape,h.output,h.size,fun i b=>h.block i (by omega) fun a=>by have:=c i a;omega⟩
end
structure Dk where
 S:List Int
 N:List Int
 W:List (Nat×List Int)
 fu:Int
def nj (E:List (Nat×Value)):List Value:=E.flatMap fun x=>[.int .i64 (x.1:Int),x.2]
theorem IJ (a b:List (Nat×Value)):nj (a++b)=nj a++nj b:=by simp[nj]
theorem JE (l:List (Nat×Value)) (k:Nat) (b:k<l.length):(nj l)[k*2]?=some (.int .i64 (l[k].1:Int))/\(nj l)[k*2+1]?=some l[k].2:=by
 induction l generalizing k with
 | nil=>simp at b
 | cons x l a=>
  cases k with
  | zero=>simp[nj]
  | succ k=>
   have:=a k (by simpa using b);simp only[nj,xA,rk,xj]at this ⊢;rw[show (k+1)*2=k*2+1+1 by omega,show k*2+1+1+1=(k*2+1)+1+1 by omega];simpa using this
def kN (w:World) (F:Nat->Prop) (gs gn:Nat) (v:Value) (D:List Int):Prop:=
 ∃g cap cur,v=.slice (some ⟨g,0,none⟩) 64 cap/\D.length=64/\F g/\g≠gs/\g≠gn/\w.heap[g]?=some (.cells cur 5)/\cur.toList.take 64=u8s D
structure Lies (w:World) (gd gs gn:Nat) (wt:Value) (E:List (Nat×Value)) (st:Dk) (L k:Nat) (F:Nat->Prop):Prop where
 fd:F gd
 fs:F gs
 fn:F gn
 ne:gs≠gn
 hd:w.heap[gd]?=some (.cells #[(gs,0,L,L),(gn,0,L,L),wt,st.fu] 113)
 hs:w.heap[gs]?=some (.cells (u8s st.S).toArray 5 (0,0))
 hn:w.heap[gn]?=some (.cells (u8s st.N).toArray 5 (0,0))
 ls:st.S.length=L
 ln:st.N.length=L
 hL:L=64*k
 k0:16<=k
 k1:k<=256
 own:w.ownsRow 0 115 2 wt E.length (nj E)
 fw:∀b,wt.ownBlock=some b->F b
 len:E.length=st.W.length
 small:E.length<=1000000
 ent:∀(i n:Nat) (v:Value),E[i]?=some (n,v)->n<k/\∃D,st.W[i]?=some (n,D)/\kN w F gs gn v D
 fin:∀i,F i->i<w.heap.size
 f0: -1<=st.fu
 f1:st.fu<=1000000
def uL (w:World) (d:Value) (st:Dk) (k:Nat) (F:Nat->Prop):Prop:=
 ∃gd gs gn wt E L,d=.pointer (some ⟨gd,0,none⟩)/\Lies w gd gs gn wt E st L k F
section
variable {w w' : World} {gd gs gn : Nat} {wt : Value} {E : List (Nat×Value)} {st : Dk} {L k : Nat} {F : Nat->Prop}
theorem tj {g':Nat} {c':Array Value} {t':TypeId} {f f':Nat×Nat} (h:w.heap[g]?=some (.cells c t f)) (b:w.heap[g']?=some (.cells c' t' f')) (d:t≠t'):g≠g':=by rintro rfl;rw[h]at b;injection b with b;injection b with _ a _;exact d a
theorem rW {cs:Array Value} (h:w.ownsRow base e size v n xs) (j:w.heap[g]?=some (.cells cs t fr)) (i:e≠t):v.ownBlock≠some g:=by
 rcases h.2 with⟨rfl,_⟩|⟨f,d,a,rfl,_,c,_⟩
 .simp[Value.ownBlock]
 .intro b;have:f=g:=by simpa[Value.ownBlock]using b
  subst this;exact tj c j i rfl
theorem oT (h:w.ownsRow base e size v n xs) (k:∀b,v.ownBlock=some b->w'.heap[b]?=w.heap[b]?):w'.ownsRow base e size v n xs:=by
 obtain⟨i,c⟩:=h;refine⟨i,?_⟩;rcases c with c|⟨g,d,a,rfl,j,f,r⟩
 .exact zt c
 .exact zu ⟨g,d,a,rfl,j,(k g rfl).trans f,r⟩
theorem kN.keep {F':Nat->Prop} (h:kN w F gs gn v D) (m:∀i c,F i->i≠gs->i≠gn->w.heap[i]?=some (.cells c 5)->w'.heap[i]?=w.heap[i]?) (n:∀i,F i->F' i):kN w' F' gs gn v D:=by obtain⟨g,b,a,rfl,l,d,j,e,f,k⟩:=h;exact⟨g,b,a,rfl,l,n _ d,j,e,(m g a d j e f).trans f,k⟩
theorem Lies.ne_d (h:Lies w gd gs gn wt E st L k F):gd≠gs/\gd≠gn/\wt.ownBlock≠some gd/\wt.ownBlock≠some gs/\wt.ownBlock≠some gn:=
 ⟨tj h.hd h.hs (by decide),tj h.hd h.hn (by decide),rW h.own h.hd (by decide),rW h.own h.hs (by decide),rW h.own h.hn (by decide)⟩
theorem Lies.keep (h:Lies w gd gs gn wt E st L k F) (g:∀i,F i->w'.heap[i]?=w.heap[i]?) (j:w.heap.size<=w'.heap.size):Lies w' gd gs gn wt E st L k F:=
 {h with
  hd:=(g _ h.fd).trans h.hd
  hs:=(g _ h.fs).trans h.hs
  hn:=(g _ h.fn).trans h.hn
  own:=oT h.own fun b e=>g b (h.fw b e)
  ent:=fun i n v a=>by obtain⟨d,D,c,f⟩:=h.ent i n v a;exact⟨d,D,c,f.keep (fun i _ a _ _ _=>g i a) fun _ a=>a⟩
  fin:=fun i a=>zm (h.fin i a) j}
theorem uL.keep (h:uL w d st k F) {G:Nat->Prop} (g:yK G w w') (j:∀i,F i->¬G i):uL w' d st k F:=by obtain⟨c,e,b,f,E,L,rfl,h⟩:=h;exact⟨c,e,b,f,E,L,rfl,h.keep (fun i a=>g.block i (h.fin i a) (j i a)) g.size⟩
theorem uL.below (h:uL w d st k F) (a:Below w w w'):uL w' d st k F:=
 h.keep (G:=fun _=>False) (yK.of_below a) (fun _ _ h=>h)
theorem uL.fin (h:uL w d st k F):∀i,F i->i<w.heap.size:=by obtain⟨b,c,a,e,E,L,rfl,h⟩:=h;exact h.fin
theorem jE {i:Nat} (h:w.heap[g]?=some (.cells c t fr)) (u:Value):(w.setCell (g,i) u).heap[g]?=some (.cells (c.setIfInBounds i u) t fr):=by simp[World.setCell,qa,h]
theorem Lies.setFu (h:Lies w gd gs gn wt E st L k F) (f:Int) (u: -1<=f) (t:f<=1000000):Lies (w.setCell (gd,3) (.int .i64 f)) gd gs gn wt E {st with fu:=f} L k F:=by
 obtain⟨o,p,l,s,r⟩:=h.ne_d;have a:∀i,i≠gd->(w.setCell (gd,3) (.int .i64 f)).heap[i]?=w.heap[i]? :=fun i d=>yC w _ _ i d;exact {h with
  hd:=by have:=jE (i:=3) h.hd (.int .i64 f);simpa using this
  hs:=(a _ (yF o)).trans h.hs
  hn:=(a _ (yF p)).trans h.hn
  own:=oT h.own fun b j=>a b (fun e=>l (by rw[j,e]))
  ent:=fun i n v d=>by obtain⟨t,D,g,m⟩:=h.ent i n v d;exact⟨t,D,g,m.keep (fun i c d _ _ q=>a i (tj q h.hd (by decide))) fun _ d=>d⟩
  fin:=fun i d=>by simpa[World.setCell]using h.fin i d
  f0:=u
  f1:=t}
end
def Did (d:Value) (st:Dk) (k:Nat) (F:Nat->Prop) (w w':World):Prop:=
 ∃F',uL w' d st k F'/\(∀i,F' i->F i\/w.heap.size<=i)/\yK F w w'
theorem Did.trans {st:Dk} {F F1:Nat->Prop} {w1 w2:World} (g:yK F w w1) (j:∀i,F1 i->F i\/w.heap.size<=i) (h:Did d st k F1 w1 w2):Did d st k F w w2:=by
 obtain⟨a,e,b,c⟩:=h;refine⟨a,e,fun i f=>?_,g.trans c j⟩;rcases b i f with h|h
 .exact j i h
 .exact zu (zr g.size h)
def sec (l:List Int) (n:Nat):List Int:=(l.drop (64*n)).take 64
def putS (l:List Int) (n:Nat) (D:List Int):List Int:=l.take (64*n)++(D++l.drop (64*n+64))
theorem mD (a:l.length=64*k) (b:n<k):(sec l n).length=64:=by unfold sec;rw[zi,yx];omega
theorem jn (a:l.length=64*k) (b:n<k) (c:D.length=64):(putS l n D).length=64*k:=by unfold putS;rw[zl,zl,zi,yx];omega
theorem W6 (a:l.length=64*k) (b:n<k) (c:D.length=64):sec (putS l n D) n=D:=by
 unfold sec putS;have e:(l.take (64*n)).length=64*n:=by rw[zi];omega
 rw[uj (by omega),yP (by omega),xj,yR (by omega),zv (by omega)]
theorem Zz {m:Nat} (c:l.length=64*k) (d:n<k) (_hm:m<k) (f:D.length=64) (h:m≠n):sec (putS l n D) m=sec l m:=by
 have e:(l.take (64*n)).length=64*n:=by rw[zi];omega
 apply xS;intro j;unfold sec putS;rw[zI,zI];by_cases a:j<64
 .rw[ze a,ze a,yo,yo];by_cases b:m<n
  .rw[zO (by omega),zI,ze (by omega)]
  .rw[zx (by omega),zx (by omega),yo]
   congr 1
   omega
 .rw[zb a,zb a]
theorem UB {a b:List Int} (d:a.length=64*k) (e:b.length=64*k) (h:∀n,n<k->sec a n=sec b n):a=b:=by
 apply xS;intro j;by_cases c:j<64*k
 .have:=congrArg (fun l=>l[j%64]?) (h (j / 64) (by omega));simp only[sec,zI,yo]at this;rw[ze (by omega),ze (by omega),show 64*(j / 64)+j%64=j by omega]at this;exact this
 .rw[yd (by omega),yd (by omega)]
section
variable {P : Program} {o : Oper} {a : Act} {w : World} {K : Act->World->Prop} {Q : Exit->Act->World->Prop}
theorem QJ (m:o.guard=none) (f:FuncId) (n:Array Operand) (p:Array TypeId) (q:o.op=.call {callee:=.value (.func f),args:=n,argTypes:=p})
 (r:∀args w,(callFunc f args).run P w=.ok (.enter f args) w) (args:Array Value) (l:#[]++n.map a.eval++#[]=args) (R:Value->World->Prop)
 (s:Calls P f args w fun e w'=>∃v,e=.returned v/\R v w') (h:∀v w',R v w'->K (a.put o.dst v) w'):if Region.wanted o (yielded ops a.tmps)=true then Oper.wp P o a w K Q else X:=by
 rw[ze (by simp[Region.wanted,m])];have e:execOp a.eval o=callFunc f (#[]++n.map a.eval++#[]):=by obtain⟨d,j,k,pos,b,c⟩:=o;simp only at q;subst q;rfl
 unfold Oper.wp;rw[e,l,r];exact s.mono fun e w' ⟨v,g,i⟩=>by subst g;exact h v w' i
def over (l:List Int) (off:Nat) (D:List Int):List Int:=l.take off++(D++l.drop (off+D.length))
theorem Lw (d s:Operand) (y B:TypeId) (F:o.op=.call {callee:=.builtin .copy,args:=#[d,s],argTypes:=#[y,B]}) (r:TypeId) (G:P.underlying y=some (.slice r)) (z:(P.info? r).map (·.size)=some 1)
 (g q u x:Nat) (C:Value) (H:a.eval d=.slice (some (g,q)) u x) (I:a.eval s=C) (cur D:List Int) (t:TypeId) (J:w.heap[g]?=some (.cells (u8s cur).toArray t (0,0)))
 (L:vC w C D) (M:0<D.length) (A:D.length<=u) (E:q+D.length<=cur.length)
 (h:K (a.put o.dst (goInt D.length)) (w.setRow g (u8s (over cur q D)).toArray)):o.wp P a w K Q:=by
 obtain⟨n,⟨p,_⟩|⟨k,i,c,rfl,m⟩⟩:=L
 .omega
 have b:=rE (P:=P) w y B o.type r g q u x ⟨k,i,none⟩ D.length c (u8s cur).toArray t (u8s D) G z J (by rw[vO];exact (vX A).symm) (fun j v l=>by
  have f:(⟨k,i,none⟩:Addr).add j=⟨k,i+j,none⟩:=by unfold Addr.add;split<;>simp_all
  rw[f];exact m j v l) (by simp[vO];omega) (oR D)
 have e:((u8s cur).toArray.toList.take q++u8s D++(u8s cur).toArray.toList.drop (q+(u8s D).length)).toArray=(u8s (over cur q D)).toArray:=by unfold over;rw[qh,qh,od,mr,vO,zU]
 rw[e,vO]at b;unfold Oper.wp;simp[execOp,F,resolve,invoke,builtin,H,I,b,Result.andThen];exact h
theorem Ht (j:o.guard=none) (d s:Operand) (k p:TypeId) (q:o.op=.call {callee:=.builtin .copy,args:=#[d,s],argTypes:=#[k,p]}) (b:TypeId) (r:P.underlying k=some (.slice b)) (l:(P.info? b).map (·.size)=some 1)
 (g e c f:Nat) (m:Value) (u:a.eval d=.slice (some (g,e)) c f) (v:a.eval s=m) (cur D:List Int) (t:TypeId) (x:w.heap[g]?=some (.cells (u8s cur).toArray t (0,0)))
 (y:vC w m D) (z:0<D.length) (n:D.length<=c) (i:e+D.length<=cur.length)
 (h:K (a.put o.dst (goInt D.length)) (w.setRow g (u8s (over cur e D)).toArray)):if Region.wanted o (yielded ops a.tmps)=true then Oper.wp P o a w K Q else X:=by
 rw[ze (by simp[Region.wanted,j])];exact Lw d s k p q b r l g e c f m u v cur D t x y z n i h
def bI (s:ByteArray):List Int:=s.data.toList.map fun b=>(b.toNat:Int)
theorem fR (s:ByteArray):(bI s).length=s.size:=by simp[bI]
theorem La (w:World) (o q r l:TypeId) (s:P.underlying o=some (.slice l)) (m:(P.info? l).map (·.size)=some 1)
 (g dLen n:Nat) (k:ByteArray) (cur:List Int) (t:TypeId) (u:w.heap[g]?=some (.cells (u8s cur).toArray t (0,0))) (p:cur.length=dLen):
 (Builtin.copy_ #[o,q] r #[(g,0,dLen,n),.string k]).run P w=.ok (goInt (Nat.min k.size dLen)) (w.setRow g (u8s (over cur 0 ((bI k).take dLen))).toArray):=by
 obtain⟨D,f⟩:∃D,D=(bI k).take dLen:=⟨_,rfl⟩;have h:D.length<=dLen:=by rw[f,zi];omega
 rw[<-f];have a:=vE P g 0 t (u8s D) 0 (u8s cur).toArray w u (by simp[vO];omega) (oR _);have e:((u8s cur).toArray.toList.take (0+0)++u8s D++(u8s cur).toArray.toList.drop (0+0+(u8s D).length)).toArray=(u8s (over cur 0 D)).toArray:=by unfold over;rw[qh,qh,od,mr,vO,zU]
 rw[e]at a;have d:((k.data.toList.map fun b:UInt8=>Value.int IntKind.u8 (b.toNat:Int)).take (Nat.min k.size dLen))=u8s D:=by
  rw[f,od,show u8s (bI k)=k.data.toList.map fun b:UInt8=>Value.int IntKind.u8 (b.toNat:Int) by simp[u8s,bI]];rw[List.take_eq_take_iff];have:(k.data.toList.map fun b:UInt8=>Value.int IntKind.u8 (b.toNat:Int)).length=k.size:=by rw[yw];rfl
  rw[this];show min (min k.size dLen) k.size=min dLen k.size;omega
 cases c:P.info? l with
 | none=>simp[c]at m
 | some i=>
  have j:i.size=1:=by simpa[c]using m
  simp[Builtin.copy_,wy s,Builtin.lenOf,Builtin.firstCells,sizeOf,typeInfo,c];rw[d,a];simp[Result.andThen]
theorem Uf (w:World) (q u x n:TypeId) (A:P.underlying q=some (.slice n)) (r:(P.info? n).map (·.size)=some 1)
 (g m o p:Nat) (y:Value) (cur D:List Int) (t:TypeId) (B:w.heap[g]?=some (.cells (u8s cur).toArray t (0,0)))
 (C:vC w y D) (E:0<D.length) (s:D.length<=o) (z:m+D.length<=cur.length):
 (Builtin.copy_ #[q,u] x #[(g,m,o,p),y]).run P w=.ok (goInt D.length) (w.setRow g (u8s (over cur m D)).toArray):=by
 obtain⟨k,⟨l,_⟩|⟨f,d,c,rfl,i⟩⟩:=C
 .omega
 have a:=rE (P:=P) w q u x n g m o p ⟨f,d,none⟩ D.length c (u8s cur).toArray t (u8s D) A r B (by rw[vO];exact (vX s).symm) (fun j v h=>by
  have b:(⟨f,d,none⟩:Addr).add j=⟨f,d+j,none⟩:=by unfold Addr.add;split<;>simp_all
  rw[b];exact i j v h) (by simp[vO];omega) (oR D)
 have e:((u8s cur).toArray.toList.take m++u8s D++(u8s cur).toArray.toList.drop (m+(u8s D).length)).toArray=(u8s (over cur m D)).toArray:=by unfold over;rw[qh,qh,od,mr,vO,zU]
 rw[e,vO]at a;exact a
end
