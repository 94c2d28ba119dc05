import Derived.Test.YtpcedcnjofbgjaaGreatDoorKA1
import Derived.Laws.CopyOwn
import Derived.Lib.Hide
import Derived.BigQuiet
import Derived.Lib.QuietBelow
import Derived.Laws.Tables
import Derived.Test.YtpcedcnjofbgjaaGreatDoorProg
import Derived.Lib.SliceRun
import Derived.OwnWalk
import Derived.Laws.AppendOwn
import Derived.StillTail
import Derived.Deep.MidRow
import Derived.LoopTactic
import Derived.IntWalk
import Derived.Deep.QuietTactic
import Derived.Lib.TrimByte
import Derived.Lib.Bytealg
import Derived.Lib.IndexLaws
set_option maxHeartbeats 0
set_option linter.all false
set_option maxRecDepth 100000
namespace Go.Proofs.YtpcedcnjofbgjaaGreatDoor
open Go.Proofs.Tryz Go.RowKit
variable {B at_ base g i id k m n q size:Nat} {D l:List Int} {Q:Exit->Act->World->Prop} {X:Prop} {a:Act} {b:ByteArray} {c:Array Value} {d v:Value} {e t:TypeId} {fr:Nat×Nat} {o:Oper} {ops:Array Oper} {w w':World} {xs:List Value}
abbrev Nw:=@Lib.run_eql_slice_nil
abbrev ur:=@BigFrame.wpQuiet_want
abbrev vg:=@wp_region_quiet_below
abbrev vn:=@wpQuiet_nil
abbrev xX:=@cell_regrown
theorem ret_i {k:IntKind} {a b:Int} (h:a=b):Ending.returned (.int k a)=.returned (.int k b):=by rw[h]
structure yK (F:Nat->Prop) (w w':World):Prop where
 os:w'.os=w.os
 tape:w'.tape=w.tape
 output:w'.output=w.output
 size:w.heap.size<=w'.heap.size
 block:∀i,i<w.heap.size->¬F i->w'.heap[i]?=w.heap[i]?
section
variable {F F1 : Nat->Prop} {w w1 w2 w' : World}
theorem yK.refl (F) (w):yK F w w:=⟨rfl,rfl,rfl,zL,λ_ _ _=>rfl⟩
theorem yK.of_below (h:Below w w w'):yK F w w':=⟨h.os,h.tape,h.output,h.size,λi a _=>h.block i a⟩
theorem yK.trans (h:yK F w w1) (k:yK F1 w1 w2) (e:∀i,F1 i->F i\/w.heap.size<=i):yK F w w2:=
 ⟨k.os.trans h.os,k.tape.trans h.tape,k.output.trans h.output,zv h.size k.size,λi b c=>
  (k.block i (zr b h.size) (λd=>by
   rcases e i d with a|a
   .exact c a
   .omega)).trans (h.block i b c)⟩
theorem yK.step (h:yK F w w1) (k:yK F w1 w2):yK F w w2:=h.trans k λ_ a=>zu a
theorem yK.mono (h:yK F w w') (d:∀i,i<w.heap.size->F i->F1 i):yK F1 w w':=
 ⟨h.os,h.tape,h.output,h.size,λi a c=>h.block i a λb=>c (d i a b)⟩
theorem yK.setRow (b:F g) (cs):yK F w (w.setRow g cs):=
 ⟨rfl,rfl,rfl,by simp,λi _ a=>yO w g i cs (λe=>a (by rw[e];exact b))⟩
theorem yK.setCell {p:Addr} (b:F p.block) (u):yK F w (w.setCell p u):=
 ⟨rfl,rfl,rfl,by simp[World.setCell],λi _ a=>yj w p u i (λe=>a (by rw[e];exact b))⟩
theorem yK.alloc (o):yK F w (w.alloc o):=yK.of_below (zB.alloc zL _)
theorem yK.drew (h:yK F w w'):yK F w w'.drew:=⟨h.os,h.tape,h.output,h.size,h.block⟩
theorem yK.grown {row:Option Nat} (h:w.grownBy w' row) (c:∀r,row=some r->F r):yK F w w':=
 ⟨h.os,h.tape,h.output,h.size,λi a b=>h.block i a (λe=>b (c i e.symm))⟩
theorem yK.to_below (h:yK F w w') (c:∀i,F i->B<=i) (hB:B<=w.heap.size):Below B w w':=
 ⟨h.os,h.tape,h.output,h.size,λi b=>h.block i (by omega) λa=>by have:=c i a;omega⟩
end
structure Dk where
 S:List Int
 N:List Int
 W:List (Nat×List Int)
 fu:Int
def P2 (E:List (Nat×Value)):List Value:=E.flatMap λx=>[.int .i64 x.1,x.2]
theorem SY (a b):P2 (a++b)=P2 a++P2 b:=by simp[P2]
theorem Sm (l) (k) (hk):(P2 l)[k*2]?=some (.int .i64 (l[k].1))/\(P2 l)[k*2+1]?=some l[k].2:=by
 induction l generalizing k with
 | nil=>simp at hk
 | cons x l a=>
  cases k with
  | zero=>simp[P2]
  | succ k=>
   have:=a k (by simpa using hk);simp only[P2,Nm,tD,yJ]at this |-;rw[show (k+1)*2=k*2+1+1 by omega,show k*2+1+1+1=(k*2+1)+1+1 by omega];simpa using this
def WY (w:World) (F:Nat->Prop) (gs gn:Nat) (v:Value) (D:List Int):Prop:=
 ∃g cap cur,v=.slice (some ⟨g,0,none⟩) 64 cap/\D.length=64/\F g/\g≠gs/\g≠gn/\w.heap[g]?=some (.cells cur 5)/\cur.toList.take 64=u8s D
structure Lies (w:World) (gd gs gn:Nat) (wt:Value) (E:List (Nat×Value)) (st:Dk) (L k:Nat) (F:Nat->Prop):Prop where
 fd:F gd
 fs:F gs
 fn:F gn
 ne:gs≠gn
 hd:w.heap[gd]?=some (.cells #[(gs,0,L,L),(gn,0,L,L),wt,st.fu] 136)
 hs:w.heap[gs]?=some (.cells (u8s st.S).toArray 5 (0,0))
 hn:w.heap[gn]?=some (.cells (u8s st.N).toArray 5 (0,0))
 ls:st.S.length=L
 ln:st.N.length=L
 hL:L=64*k
 k0:16<=k
 k1:k<=256
 own:w.ownsRow 0 138 2 wt E.length (P2 E)
 fw:∀b,wt.ownBlock=some b->F b
 len:E.length=st.W.length
 small:E.length<=1000000
 ent:∀(i n:Nat) (v:Value),E[i]?=some (n,v)->n<k/\∃D,st.W[i]?=some (n,D)/\WY w F gs gn v D
 fin:∀i,F i->i<w.heap.size
 f0: -1<=st.fu
 f1:st.fu<=1000000
def uT (w:World) (d:Value) (st:Dk) (k:Nat) (F:Nat->Prop):Prop:=
 ∃gd gs gn wt E L,d=.pointer (some ⟨gd,0,none⟩)/\Lies w gd gs gn wt E st L k F
section
variable {w w' : World} {gd gs gn : Nat} {wt : Value} {E : List (Nat×Value)} {st : Dk} {L k : Nat} {F : Nat->Prop}
theorem ve {g':Nat} {c':Array Value} {t':TypeId} {f f':Nat×Nat} (h:w.heap[g]?=some (.cells c t f)) (b:w.heap[g']?=some (.cells c' t' f')) (d:t≠t'):g≠g':=by rintro rfl;rw[h]at b;injection b with b;injection b with _ a _;exact d a
theorem rC {cs:Array Value} (h:w.ownsRow base e size v n xs) (j:w.heap[g]?=some (.cells cs t fr)) (i:e≠t):v.ownBlock≠some g:=by
 rcases h.2 with⟨rfl,_⟩|⟨f,d,a,rfl,_,c,_⟩
 .simp[Value.ownBlock]
 .intro b;have:f=g:=by simpa[Value.ownBlock]using b
  subst this;exact ve c j i rfl
theorem tI (h:w.ownsRow base e size v n xs) (k:∀b,v.ownBlock=some b->w'.heap[b]?=w.heap[b]?):w'.ownsRow base e size v n xs:=by
 obtain⟨i,c⟩:=h;refine⟨i,?_⟩;rcases c with c|⟨g,d,a,rfl,j,f,r⟩
 .exact zu c
 .exact zw ⟨g,d,a,rfl,j,(k g rfl).trans f,r⟩
theorem WY.keep {F':Nat->Prop} (h:WY w F gs gn v D) (m:∀i c,F i->i≠gs->i≠gn->w.heap[i]?=some (.cells c 5)->w'.heap[i]?=w.heap[i]?) (n:∀i,F i->F' i):WY w' F' gs gn v D:=by obtain⟨g,b,a,rfl,l,d,j,e,f,k⟩:=h;exact⟨g,b,a,rfl,l,n _ d,j,e,(m g a d j e f).trans f,k⟩
theorem Lies.ne_d (h:Lies w gd gs gn wt E st L k F):gd≠gs/\gd≠gn/\wt.ownBlock≠some gd/\wt.ownBlock≠some gs/\wt.ownBlock≠some gn:=
 ⟨ve h.hd h.hs (by decide),ve h.hd h.hn (by decide),rC h.own h.hd (by decide),rC h.own h.hs (by decide),rC h.own h.hn (by decide)⟩
theorem Lies.keep (h:Lies w gd gs gn wt E st L k F) (g:∀i,F i->w'.heap[i]?=w.heap[i]?) (j:w.heap.size<=w'.heap.size):Lies w' gd gs gn wt E st L k F:=
 {h with
  hd:=(g _ h.fd).trans h.hd
  hs:=(g _ h.fs).trans h.hs
  hn:=(g _ h.fn).trans h.hn
  own:=tI h.own λb e=>g b (h.fw b e)
  ent:=λi n v a=>by obtain⟨d,D,c,f⟩:=h.ent i n v a;exact⟨d,D,c,f.keep (λi _ a _ _ _=>g i a) λ_ a=>a⟩
  fin:=λi a=>zr (h.fin i a) j}
theorem uT.keep (h:uT w d st k F) {G:Nat->Prop} (g:yK G w w') (j:∀i,F i->¬G i):uT w' d st k F:=by obtain⟨c,e,b,f,E,L,rfl,h⟩:=h;exact⟨c,e,b,f,E,L,rfl,h.keep (λi a=>g.block i (h.fin i a) (j i a)) g.size⟩
theorem uT.below (h:uT w d st k F) (a:Below w w w'):uT w' d st k F:=
 h.keep (G:=λ_=>False) (yK.of_below a) (λ_ _ h=>h)
theorem uT.fin (h:uT w d st k F):∀i,F i->i<w.heap.size:=by obtain⟨b,c,a,e,E,L,rfl,h⟩:=h;exact h.fin
theorem NT (h:w.heap[g]?=some (.cells c t fr)) (u):(w.setCell (g,i) u).heap[g]?=some (.cells (c.setIfInBounds i u) t fr):=by simp[World.setCell,Ci,h]
theorem Lies.setFu (h:Lies w gd gs gn wt E st L k F) (f) (u: -1<=f) (t:f<=1000000):Lies (w.setCell (gd,3) (.int .i64 f)) gd gs gn wt E {st with fu:=f} L k F:=by
 obtain⟨o,p,l,s,r⟩:=h.ne_d;have a:∀i,i≠gd->(w.setCell (gd,3) (.int .i64 f)).heap[i]?=w.heap[i]? :=λi d=>yj w _ _ i d;exact {h with
  hd:=by have:=NT (i:=3) h.hd (.int .i64 f);simpa using this
  hs:=(a _ (yA o)).trans h.hs
  hn:=(a _ (yA p)).trans h.hn
  own:=tI h.own λb j=>a b (λe=>l (by rw[j,e]))
  ent:=λi n v d=>by obtain⟨t,D,g,m⟩:=h.ent i n v d;exact⟨t,D,g,m.keep (λi c d _ _ q=>a i (ve q h.hd (by decide))) λ_ d=>d⟩
  fin:=λi d=>by simpa[World.setCell]using h.fin i d
  f0:=u
  f1:=t}
end
def Did (d:Value) (st:Dk) (k:Nat) (F:Nat->Prop) (w w':World):Prop:=
 ∃F',uT w' d st k F'/\(∀i,F' i->F i\/w.heap.size<=i)/\yK F w w'
theorem Did.trans {st:Dk} {F F1:Nat->Prop} {w1 w2:World} (g:yK F w w1) (j:∀i,F1 i->F i\/w.heap.size<=i) (h:Did d st k F1 w1 w2):Did d st k F w w2:=by
 obtain⟨a,e,b,c⟩:=h;refine⟨a,e,λi f=>?_,g.trans c j⟩;rcases b i f with h|h
 .exact j i h
 .exact zw (zv g.size h)
abbrev oM:=@Did.trans
def sec (l:List Int) (n:Nat):List Int:=(l.drop (64*n)).take 64
def putS (l:List Int) (n:Nat) (D:List Int):List Int:=l.take (64*n)++(D++l.drop (64*n+64))
theorem jn (a:l.length=64*k) (b:n<k):(sec l n).length=64:=by unfold sec;rw[Ni,Nk];omega
theorem ZF (a:l.length=64*k) (b:n<k) (c:D.length=64):(putS l n D).length=64*k:=by unfold putS;rw[zl,zl,Ni,Nk];omega
theorem sp (a:l.length=64*k) (b:n<k) (c:D.length=64):sec (putS l n D) n=D:=by
 unfold sec putS;have e:(l.take (64*n)).length=64*n:=by rw[Ni];omega
 rw[vC (by omega),yG (by omega),yJ,yC (by omega),zo (by omega)]
theorem Me (c:l.length=64*k) (d:n<k) (_hm:m<k) (f:D.length=64) (h:m≠n):sec (putS l n D) m=sec l m:=by
 have e:(l.take (64*n)).length=64*n:=by rw[Ni];omega
 apply wV;intro j;unfold sec putS;rw[zI,zI];by_cases a:j<64
 .rw[ze a,ze a,yy,yy];by_cases b:m<n
  .rw[zV (by omega),zI,ze (by omega)]
  .rw[zx (by omega),zx (by omega),yy]
   congr 1
   omega
 .rw[zb a,zb a]
theorem Jc {a b:List Int} (d:a.length=64*k) (e:b.length=64*k) (h:∀n,n<k->sec a n=sec b n):a=b:=by
 apply wV;intro j;by_cases c:j<64*k
 .have:=zQ (λl=>l[j%64]?) (h (j / 64) (by omega));simp only[sec,zI,yy]at this;rw[ze (by omega),ze (by omega),show 64*(j / 64)+j%64=j by omega]at this;exact this
 .rw[yW (by omega),yW (by omega)]
section
variable {P : Program} {o : Oper} {a : Act} {w : World} {K : Act->World->Prop} {Q : Exit->Act->World->Prop}
theorem Kw (m:o.guard=none) (f) (xs) (ats) (n:o.op=.call {callee:=.value (.func f),args:=xs,argTypes:=ats})
 (p:∀args w,(callFunc f args).run P w=.ok (.enter f args) w) (args) (l:#[]++xs.map a.eval++#[]=args) (R:Value->World->Prop)
 (q:Calls P f args w λe w'=>∃v,e=.returned v/\R v w') (h:∀v w',R v w'->K (a.put o.dst v) w'):if Region.wanted o (yielded ops a.tmps)=true then Oper.wp P o a w K Q else X:=by
 rw[ze (by simp[Region.wanted,m])];have e:execOp a.eval o=callFunc f (#[]++xs.map a.eval++#[]):=by obtain⟨d,j,k,pos,b,c⟩:=o;simp only at n;subst n;rfl
 unfold Oper.wp;rw[e,l,p];exact q.mono λe w' ⟨v,g,i⟩=>by subst g;exact h v w' i
def over (l:List Int) (off:Nat) (D:List Int):List Int:=l.take off++(D++l.drop (off+D.length))
theorem Tn (d s) (dT sT) (x:o.op=.call {callee:=.builtin .copy,args:=#[d,s],argTypes:=#[dT,sT]}) (elem) (y:P.underlying dT=some (.slice elem)) (q:(P.info? elem).map (·.size)=some 1)
 (g off dLen dCap) (sv) (z:a.eval d=.slice (some ⟨g,off,none⟩) dLen dCap) (A:a.eval s=sv) (cur D) (t) (B:w.heap[g]?=some (.cells (u8s cur).toArray t (0,0)))
 (C:uM w sv D) (E:0<D.length) (r:D.length<=dLen) (u:off+D.length<=cur.length)
 (h:K (a.put o.dst (goInt D.length)) (w.setRow g (u8s (over cur off D)).toArray)):o.wp P a w K Q:=by
 obtain⟨n,⟨p,_⟩|⟨k,i,c,rfl,m⟩⟩:=C
 .omega
 have b:=tR (P:=P) w dT sT o.type elem g off dLen dCap ⟨k,i,none⟩ D.length c (u8s cur).toArray t (u8s D) y q B (by rw[wd];exact (Cg r).symm) (λj v l=>by
  have f:(⟨k,i,none⟩:Addr).add j=⟨k,i+j,none⟩:=by unfold Addr.add;split<;>simp_all
  rw[f];exact m j v l) (by simp[wd];omega) (gZ D)
 have e:((u8s cur).toArray.toList.take off++u8s D++(u8s cur).toArray.toList.drop (off+(u8s D).length)).toArray=(u8s (over cur off D)).toArray:=by unfold over;rw[pX,pX,ZP,no,wd,zR]
 rw[e,wd]at b;unfold Oper.wp;simp[execOp,x,resolve,invoke,builtin,z,A,b,Result.andThen];exact h
theorem Oq (c:o.guard=none) (d s) (dT sT) (i:o.op=.call {callee:=.builtin .copy,args:=#[d,s],argTypes:=#[dT,sT]}) (elem) (j:P.underlying dT=some (.slice elem)) (e:(P.info? elem).map (·.size)=some 1)
 (g off dLen dCap) (sv) (k:a.eval d=.slice (some ⟨g,off,none⟩) dLen dCap) (l:a.eval s=sv) (cur D) (t) (m:w.heap[g]?=some (.cells (u8s cur).toArray t (0,0)))
 (n:uM w sv D) (p:0<D.length) (f:D.length<=dLen) (b:off+D.length<=cur.length)
 (h:K (a.put o.dst (goInt D.length)) (w.setRow g (u8s (over cur off D)).toArray)):if Region.wanted o (yielded ops a.tmps)=true then Oper.wp P o a w K Q else X:=by
 rw[ze (by simp[Region.wanted,c])];exact Tn d s dT sT i elem j e g off dLen dCap sv k l cur D t m n p f b h
def bI (s:ByteArray):List Int:=s.data.toList.map λb=>b.toNat
theorem RN (s):(bI s).length=s.size:=by simp[bI]
theorem ig (w) (dT sT ty elem) (m:P.underlying dT=some (.slice elem)) (k:(P.info? elem).map (·.size)=some 1)
 (g dLen dCap) (sv) (cur) (t) (n:w.heap[g]?=some (.cells (u8s cur).toArray t (0,0))) (l:cur.length=dLen):
 (Builtin.copy_ #[dT,sT] ty #[.slice (some ⟨g,0,none⟩) dLen dCap,.string sv]).run P w=.ok (goInt (Nat.min sv.size dLen)) (w.setRow g (u8s (over cur 0 ((bI sv).take dLen))).toArray):=by
 obtain⟨D,f⟩:∃D,D=(bI sv).take dLen:=⟨_,rfl⟩;have h:D.length<=dLen:=by rw[f,Ni];omega
 rw[<-f];have a:=wS P g 0 t (u8s D) 0 (u8s cur).toArray w n (by simp[wd];omega) (gZ _);have e:((u8s cur).toArray.toList.take (0+0)++u8s D++(u8s cur).toArray.toList.drop (0+0+(u8s D).length)).toArray=(u8s (over cur 0 D)).toArray:=by unfold over;rw[pX,pX,ZP,no,wd,zR]
 rw[e]at a;have d:((sv.data.toList.map λb=>Value.int IntKind.u8 b.toNat).take (Nat.min sv.size dLen))=u8s D:=by
  rw[f,ZP,show u8s (bI sv)=sv.data.toList.map λb:UInt8=>Value.int IntKind.u8 (b.toNat:Int) by simp[u8s,bI]];rw[List.take_eq_take_iff];have:(sv.data.toList.map λb=>Value.int IntKind.u8 b.toNat).length=sv.size:=by rw[yD];rfl
  rw[this];show min (min sv.size dLen) sv.size=min dLen sv.size;omega
 cases c:P.info? elem with
 | none=>simp[c]at k
 | some i=>
  have j:i.size=1:=by simpa[c]using k
  simp[Builtin.copy_,wP m,Builtin.lenOf,Builtin.firstCells,sizeOf,typeInfo,c];rw[d,a];simp[Result.andThen]
theorem Md (w) (dT sT ty elem) (p:P.underlying dT=some (.slice elem)) (m:(P.info? elem).map (·.size)=some 1)
 (g off dLen dCap) (sv) (cur D) (t) (q:w.heap[g]?=some (.cells (u8s cur).toArray t (0,0)))
 (r:uM w sv D) (s:0<D.length) (n:D.length<=dLen) (o:off+D.length<=cur.length):
 (Builtin.copy_ #[dT,sT] ty #[.slice (some ⟨g,off,none⟩) dLen dCap,sv]).run P w=.ok (goInt D.length) (w.setRow g (u8s (over cur off D)).toArray):=by
 obtain⟨k,⟨l,_⟩|⟨f,d,c,rfl,i⟩⟩:=r
 .omega
 have a:=tR (P:=P) w dT sT ty elem g off dLen dCap ⟨f,d,none⟩ D.length c (u8s cur).toArray t (u8s D) p m q (by rw[wd];exact (Cg n).symm) (λj v h=>by
  have b:(⟨f,d,none⟩:Addr).add j=⟨f,d+j,none⟩:=by unfold Addr.add;split<;>simp_all
  rw[b];exact i j v h) (by simp[wd];omega) (gZ D)
 have e:((u8s cur).toArray.toList.take off++u8s D++(u8s cur).toArray.toList.drop (off+(u8s D).length)).toArray=(u8s (over cur off D)).toArray:=by unfold over;rw[pX,pX,ZP,no,wd,zR]
 rw[e,wd]at a;exact a
end
theorem us (h:∃p:Regrown,w'=Sort.grow (redrawn w p.d) p.os):Below w w w':=by obtain⟨p,rfl⟩:=h;exact below_regrown w p.d p.os
theorem qy (h:∃p:Regrown,w'=Sort.grow (redrawn w p.d) p.os) {o:Obj} (a:w.heap[i]?=some o):w'.heap[i]?=some o:=xV (us h) a
theorem vY {w'':World} (h:∃p:Regrown,w'=Sort.grow (redrawn w p.d) p.os) (a:Below w' w' w''):∃p:Regrown,w''=Sort.grow (redrawn w p.d) p.os:=
 regrown_of_below (zi (us h) a)
section
variable {P : Program}
theorem Oi {o:Oper} {a:Act} {C:World->Prop} {K:Act->Prop} (ty) (x) (ho:o.op=.load ty x)
 (g) (hx:a.eval x=.pointer (some ⟨g,0,none⟩)) (t) (cs) (fr) (d) (hg:∀w,C w->w.heap[g]?=some (.cells cs t fr))
 (hu:P.underlying ty=some d) (hd:(match d with|.struct _|.array _ _=>true|_=>false)=true) (hi:(P.info? ty).map (·.size)=some cs.size)
 (h:K (a.put o.dst (.agg cs))):o.quiet P a C K:=
 ⟨.agg cs,λw b=>by unfold Oper.quietAt execOp;simp only[ho,hx,Instr.loadAt,Instr.sureAddr,Nn,vP,yM,nx w g t ty cs fr d (hg w b) hu hd hi];exact⟨rfl,rfl⟩,h⟩
theorem mp {ops:Array Oper} {Q:Act->Prop} {rest:List Oper} {o:Oper} {a:Act} {C:World->Prop} (hw:Region.wanted o (yielded ops a.tmps)=true) (ty) (x) (ho:o.op=.load ty x)
 (g) (hx:a.eval x=.pointer (some ⟨g,0,none⟩)) (t) (cs) (fr) (d) (hg:∀w,C w->w.heap[g]?=some (.cells cs t fr))
 (hu:P.underlying ty=some d) (hd:(match d with|.struct _|.array _ _=>true|_=>false)=true) (hi:(P.info? ty).map (·.size)=some cs.size)
 (h:wpQuiet P ops C Q rest (a.put o.dst (.agg cs))):wpQuiet P ops C Q (o::rest) a:=
 ur hw λ_ b=>Oi ty x ho g hx t cs fr d hg hu hd hi (b _ h)
theorem sG {Q:Act->Prop} {rest:List Oper} {C:World->Prop} (f) (xs) (ats) (p:o.op=.call {callee:=.value (.func f),args:=xs,argTypes:=ats})
 (q:Region.wanted o (yielded ops a.tmps)=true) (r:∀args w,(callFunc f args).run P w=.ok (.enter f args) w) (args) (n:#[]++xs.map a.eval++#[]=args) (v)
 (s:∀w' w'',C w'->Below w' w' w''->C w'') (t:∀w',C w'->Calls P f args w' λe w''=>e=.returned v/\Below w' w' w'') (h:wpQuiet P ops C Q rest (a.put o.dst v)):wpQuiet P ops C Q (o::rest) a:=
 ur q λ_ j=>⟨v,λw' b=>by
  have e:execOp a.eval o=callFunc f (#[]++xs.map a.eval++#[]):=by obtain⟨g,l,m,pos,c,d⟩:=o;simp only at p;subst p;rfl
  unfold Oper.quietAt;rw[e,n,r];exact⟨rfl,(t w' b).mono λ_ _ ⟨i,k⟩=>⟨i,s _ _ b k⟩⟩,j _ h⟩
end
section
variable {P : Program} {l : List Oper}
structure FI (St:World->World->Prop) (m:Nat) (sl:Nat->Nat) (F:Nat->Value->World->Prop) (pr:Nat->Nat->Prop) (old:Nat->Value->Prop) (w0:World) (D:Nat->Bool) (a:Act) (u:World):Prop where
 b:St w0 u
 size:a.tmps.size=m
 dfs:a.defers=[]
 old:∀k v,old k v->a.tmps.getD k undef=v
 fact:∀i,D i=true->F i (a.tmps.getD (sl i) undef) u
 ne:∀i j,pr i j->D i=true->D j=true->a.tmps.getD (sl i) undef≠a.tmps.getD (sl j) undef
theorem Ol (hm:P.follows .mixedOrders=true) (hr:Ot l=true) (St) (W:St w w.drew) (X:∀u u',St w u->St u u'->St w u') (m) (O:Nat->Nat) (F) (pr) (old)
 (Y:∀j v u u',St u u'->F j v u->F j v u') (S:∀i j,pr i j->pr j i/\i≠j) (R:∀i j,i≠j->O i≠O j) (U:∀i k v,old k v->k≠O i)
 (Z:(l.zipIdx.all λp=>p.1.guard.isNone&&p.1.dst==some (O p.2)&&decide (O p.2<m))=true)
 (h0:a.tmps.size=m/\a.defers=[]/\∀k v,old k v->a.tmps.getD k undef=v)
 (T:∀D a u,FI St m O F pr old w D a u->∀i o,l[i]?=some o->D i=false->(∀e∈o.after,Region.binds .any e=true->D e.on=true) ->
  o.wp P a u (λa' u'=>∃v,a'=a.put o.dst v/\St u u'/\F i v u'/\∀j,pr i j->D j=true->v≠a.tmps.getD (O j) undef) Q)
 (V:∀D a u,FI St m O F pr old w D a u->(∀i,i<l.length->D i=true)->Q .normal a u):(Code.region id l.toArray true).wp P Q a w:=by
 refine mq hm hr (FI St m O F pr old w) ?_ ?_ V
 .exact⟨W,h0.1,h0.2.1,h0.2.2,λi B=>by simp at B,λi j _ B=>by simp at B⟩
 .intro D a u h i o z I M;have K:=(zG.1 z).1;have N:l[i]=o:=(zG.1 z).2;have E:=xp.1 Z (o,i) (by rw[vH];exact z);simp only[yS,vj,wX,xe]at E;obtain⟨⟨H,G⟩,A⟩:=E;refine PF H (uN ?_ (T D a u h i o z I M));rintro a' u' ⟨v,rfl,C,J,t⟩;rw[G];have y:O i<a.tmps.size:=by rw[h.size];exact A
  have f:(a.put (some (O i)) v).tmps.getD (O i) undef=v:=by show (a.tmps.setIfInBounds (O i) v).getD (O i) undef=v;simp[xh,y]
  have c:∀k,k≠O i->(a.put (some (O i)) v).tmps.getD k undef=a.tmps.getD k undef:=λk r=>by show (a.tmps.setIfInBounds (O i) v).getD k undef=_;simp only[xh,yH,zb (yA r)]
  have g:∀j,upd D i j=true->j≠i->D j=true:=λj s L=>pz s L;refine⟨X _ _ h.b C,?_,h.dfs,λk v r=>?_,λj s=>?_,λj k n s r=>?_⟩
  .show (a.tmps.setIfInBounds (O i) v).size=m;rw[xL];exact h.size
  .rw[c k (U i k v r)];exact h.old k v r
  .by_cases d:j=i
   .subst d;rw[f];exact J
   .rw[c _ (R j i d)];exact Y _ _ _ _ C (h.fact j (g j s d))
  .by_cases d:j=i
   .subst d;have x:=yA (S j k n).2;rw[f,c _ (R k j x)];exact t k n (g k r x)
   .by_cases q:k=i
    .subst q;rw[f,c _ (R j k d)];exact yA (t j (S j k n).1 (g j s d))
    .rw[c _ (R j i d),c _ (R k i q)];exact h.ne j k n (g j s d) (g k r q)
def Fj (l:List Oper) (j k:Nat):Bool:=match l[j]? with|some o=>o.after.any λe=>Region.binds .any e&&(e.on==k)|none=>false
def nR (l:List Oper) (n:Nat):List Nat:=(List.range n).reverse.foldl (λR k=>if R.any (λj=>Fj l j k) then k::R else R) [n]
def JQ (l:List Oper) (n:Nat):Bool:=(l.length==n+1)&&(match l[n]? with|some o=>o.guard.isNone|none=>false)&&((List.range n).all λi=>(nR l n).contains i)
theorem YS {l:List Oper} {D:Nat->Bool} (x:l[n]?=some o) (y:∀e∈o.after,Region.binds .any e=true->D e.on=true) (w:∀k o,l[k]?=some o->D k=true->∀e∈o.after,Region.binds .any e=true->D e.on=true):∀k∈nR l n,k≠n->D k=true:=by
 unfold nR;have p:∀(m:List Nat) (R),(∀k∈R,k≠n->D k=true)->∀k∈m.foldl (λR k=>if R.any (λj=>Fj l j k) then k::R else R) R,k≠n->D k=true:=by
  intro m
  induction m with
  | nil=>intro R h;exact h
  | cons c m u=>
   intro R h;rw[ww];refine u _ λk d b=>?_;by_cases r:R.any (λj=>Fj l j c)=true
   .rw[ze r]at d;rcases yZ.1 d with rfl|d
    .obtain⟨j,t,i⟩:=xO.1 r;unfold Fj at i;cases a:l[j]? with
     | none=>rw[a]at i;cases i
     | some v=>
      rw[a]at i;obtain⟨q,s,f⟩:=Array.any_eq_true.1 i;simp only[yS,wX]at f;rw[<-f.2];by_cases g:j=n
      .subst g;rw[x]at a;injection a with a;subst a;exact y _ (Array.getElem_mem s) f.1
      .exact w j v a (h j t g) _ (Array.getElem_mem s) f.1
    .exact h k d b
   .rw[zb r]at d;exact h k d b
 exact p _ [n] (λk d b=>by simp at d;exact yi d b)
theorem Zh (hm:P.follows .mixedOrders=true) (hr:Ot l=true) (St) (al:St w w.drew) (am:∀u u',St w u->St u u'->St w u') (m) (sl:Nat->Nat) (F) (pr) (old)
 (an:∀j v u u',St u u'->F j v u->F j v u') (af:∀i j,pr i j->pr j i/\i≠j) (ae:∀i j,i≠j->sl i≠sl j) (ah:∀i k v,old k v->k≠sl i)
 (n) (aa:JQ l n=true)
 (ao:((l.take n).zipIdx.all λp=>p.1.guard.isNone&&p.1.dst==some (sl p.2)&&decide (sl p.2<m))=true)
 (h0:a.tmps.size=m/\a.defers=[]/\∀k v,old k v->a.tmps.getD k undef=v)
 (ag:∀D a u,FI St m sl F pr old w D a u->∀i o,i<n->l[i]?=some o->D i=false->(∀e∈o.after,Region.binds .any e=true->D e.on=true) ->
  o.wp P a u (λa' u'=>∃v,a'=a.put o.dst v/\St u u'/\F i v u'/\∀j,pr i j->D j=true->v≠a.tmps.getD (sl j) undef) Q)
 (aj:∀D a u,FI St m sl F pr old w D a u->(∀i,i<n->D i=true)->∀o,l[n]?=some o->o.wp P a u (λa' u'=>Q .normal a' u') Q):(Code.region id l.toArray true).wp P Q a w:=by
 unfold JQ at aa;simp only[yS,wX]at aa;obtain⟨⟨ab,aa⟩,A⟩:=aa;obtain⟨oz,C⟩:∃o,l[n]?=some o:=⟨l[n]' (by omega),zk (by omega)⟩;rw[C]at aa;have Y:oz.guard=none:=by simpa using aa
 have T:∀i,i<n->i∈nR l n:=λi R=>by have:=xp.1 A i (xy.2 R);simpa using this
 refine mq hm hr (λD a u=>(∀k o,l[k]?=some o->D k=true->∀e∈o.after,Region.binds .any e=true->D e.on=true)/\((D n=false/\FI St m sl F pr old w D a u)\/(D n=true/\(∀i,i<n->D i=true)/\Q .normal a u))) ?_ ?_ ?_
 .exact⟨λk o _ f=>by simp at f,zu ⟨rfl,al,h0.1,h0.2.1,h0.2.2,λi R=>by simp at R,λi j _ R=>by simp at R⟩⟩
 .intro D a u N i o G L ha;obtain⟨U,N⟩:=N;have E:∀k o,l[k]?=some o->upd D i k=true->∀e∈o.after,Region.binds .any e=true->upd D i e.on=true:=λk ok f X e he K=>by
   have M:∀r,D r=true->upd D i r=true:=λr hr=>(by simp[upd,hr]);by_cases q:k=i
   .subst q;rw[G]at f;injection f with f;subst f;exact M _ (ha e he K)
   .exact M _ (U k ok f (pz X q) e he K)
  have ai:=(zG.1 G).1;rcases N with⟨s,h⟩|⟨s,Z,_⟩
  .by_cases B:i=n
   .subst B;rw[C]at G;injection G with G;subst G;have t:∀j,j<i->D j=true:=λj y=>YS C ha U j (T j y) (by omega);refine PF Y (uN ?_ (aj D a u h t oz C));intro a' u' W;exact⟨E,zw ⟨O3 D i,λj y=>by rw[rQ (by omega)];exact t j y,W⟩⟩
   .have H:i<n:=(by omega);have hP:=xp.1 ao (o,i) (by rw[vH];show (l.take n)[i]?=some o;rw[zI,ze H];exact G);simp only[yS,vj,wX,xe]at hP;obtain⟨⟨hg,hd⟩,V⟩:=hP;refine PF hg (uN ?_ (ag D a u h i o H G L ha));rintro a' u' ⟨v,rfl,K,hF,J⟩;refine⟨E,zu ⟨by rw[rQ (yA B)];exact s,?_⟩⟩;rw[hd];have S:sl i<a.tmps.size:=(by rw[h.size];exact V);have g:(a.put (some (sl i)) v).tmps.getD (sl i) undef=v:=(by show (a.tmps.setIfInBounds (sl i) v).getD (sl i) undef=v;simp[xh,S]);have c:∀k,k≠sl i->(a.put (some (sl i)) v).tmps.getD k undef=a.tmps.getD k undef:=λk f=>(by show (a.tmps.setIfInBounds (sl i) v).getD k undef=_;simp only[xh,yH,zb (yA f)]);have x:∀j,upd D i j=true->j≠i->D j=true:=λj y hn=>pz y hn;refine⟨am _ _ h.b K,?_,h.dfs,λk v f=>?_,λj y=>?_,λj k z y f=>?_⟩
    .show (a.tmps.setIfInBounds (sl i) v).size=m;rw[xL];exact h.size
    .rw[c k (ah i k v f)];exact h.old k v f
    .by_cases d:j=i
     .subst d;rw[g];exact hF
     .rw[c _ (ae j i d)];exact an _ _ _ _ K (h.fact j (x j y d))
    .by_cases d:j=i
     .subst d;have O:=yA (af j k z).2;rw[g,c _ (ae k j O)];exact J k z (x k f O)
     .by_cases q:k=i
      .subst q;rw[g,c _ (ae j k d)];exact yA (J j (af j k z).1 (x j y d))
      .rw[c _ (ae j i d),c _ (ae k i q)];exact h.ne j k z (x j y d) (x k f q)
  .exfalso;by_cases B:i=n
   .subst B;rw[s]at L;cases L
   .have:=Z i (by omega);rw[this]at L;cases L
 .intro D a u N I;rcases N.2 with⟨s,_⟩|⟨_,_,W⟩
  .have:=I n (by omega);rw[this]at s;cases s
  .exact W
end
section
variable {P : Program} {o : Oper} {a : Act} {w : World} {K : Act->World->Prop} {Q : Exit->Act->World->Prop}
theorem vI (h:(execOp a.eval o).run P w=.ok (.value v) w') (b:K (a.put o.dst v) w'):o.wp P a w K Q:=by unfold Oper.wp;rw[h];exact b
theorem TS (h:(execOp a.eval o).run P w=.ok .skip w') (b:K (a.put o.dst undef) w'):o.wp P a w K Q:=by unfold Oper.wp;rw[h];exact b
theorem kU (x) (b:o.op=.nilCheck x) (p) (c:a.eval x=.pointer (some p)) (d:K (a.put o.dst p) w):o.wp P a w K Q:=
 vI (v:=.pointer (some p)) (w':=w) (by unfold execOp;simp only[b];rw[c];rfl) d
theorem RY (t) (xs) (b:o.op=.build t xs) (parts) (c:xs.map (λp=>(p.1,a.eval p.2))=parts) (cells) (d:P.built t parts.toList=some cells)
 (e:K (a.put o.dst (.agg cells)) w):o.wp P a w K Q:=
 vI (v:=.agg cells) (w':=w) (by unfold execOp;simp only[b];rw[c];simp[run_build w t parts cells d]) e
theorem V7 (t) (x) (b:o.op=.box t x) (R) (c:a.eval x=.agg R) (d:K (a.put o.dst (w.heap.size,())) (w.alloc (.cells R t))):o.wp P a w K Q:=
 vI (v:=.pointer (some ⟨w.heap.size,0,none⟩)) (w':=w.alloc (.cells R t)) (by unfold execOp;simp only[b,c,Instr.box,newVar,Nn];rfl) d
theorem SQ (t) (b:o.op=.makeMap t none) (c:K (a.put o.dst (.map (some w.heap.size))) (w.alloc (.map #[] 0))):o.wp P a w K Q:=
 vI (v:=.map (some w.heap.size)) (w':=w.alloc (.map #[] 0)) (by unfold execOp;simp only[b];rfl) c
theorem lZ (f) (xs) (ats) (m:o.op=.call {callee:=.value (.func f),args:=xs,argTypes:=ats})
 (n:∀args w,(callFunc f args).run P w=.ok (.enter f args) w) (args) (l:#[]++xs.map a.eval++#[]=args) (R:Value->World->Prop)
 (p:Calls P f args w λe w'=>∃v,e=.returned v/\R v w') (h:∀v w',R v w'->K (a.put o.dst v) w'):o.wp P a w K Q:=by
 have e:execOp a.eval o=callFunc f (#[]++xs.map a.eval++#[]):=by obtain⟨d,j,k,pos,b,c⟩:=o;simp only at m;subst m;rfl
 unfold Oper.wp;rw[e,l,n];exact p.mono λe w' ⟨v,g,i⟩=>by subst g;exact h v w' i
end
def DY (cs:Array Value) (off:Nat) (vs:Array Value):Array Value:=vs.zipIdx.foldl (λcs p=>cs.setIfInBounds (off+p.2) p.1) cs
theorem fG (off):∀(l:List Value) (n) (cs:Array Value),((l.zipIdx n).foldl (λcs p=>cs.setIfInBounds (off+p.2) p.1) cs).size=cs.size /\
 (off+n+l.length<=cs.size->∀i,((l.zipIdx n).foldl (λcs p=>cs.setIfInBounds (off+p.2) p.1) cs)[i]?=if off+n<=i/\i<off+n+l.length then l[i-(off+n)]? else cs[i]?)
 | [],n,cs=>⟨rfl,λ_ i=>by rw[zb (by simp)];rfl⟩
 | v::l,n,cs=>by
  rw[List.zipIdx_cons,ww];obtain⟨c,a⟩:=fG off l (n+1) (cs.setIfInBounds (off+n) v);rw[xL]at c a;refine⟨c,λe i=>?_⟩;rw[yv]at e;rw[a (by omega) i,yH];rw[yv];by_cases b:off+(n+1)<=i/\i<off+(n+1)+l.length
  .rw[ze b,ze (by omega),show i-(off+n)=(i-(off+(n+1)))+1 by omega,zh]
  .rw[zb b];by_cases d:off+n=i
   .subst d;rw[ze rfl,ze (by omega),ze (by omega),vQ];rfl
   .rw[zb d,zb (by omega)]
theorem DW (cs) (off) (vs):(DY cs off vs).size=cs.size:=by unfold DY;rw[<-Array.foldl_toList,Array.toList_zipIdx];exact (fG off vs.toList 0 cs).1
theorem EJ (cs) (off) (vs) (h:off+vs.size<=cs.size) (i):(DY cs off vs)[i]?=if off<=i/\i<off+vs.size then vs[i-off]? else cs[i]? :=by unfold DY;rw[<-Array.foldl_toList,Array.toList_zipIdx];have:=(fG off vs.toList 0 cs).2 (by simpa using h) i;rw[this];simp
theorem G7 {place:Nat->Option (Nat×Nat)} {cells:Array Value} {rest:List (Nat×Value)} (off size) (a:place i=some (off,size)) (b:v.cells.size=size) (c:off+size<=cells.size):
 Instr.fill place cells ((i,v)::rest)=Instr.fill place (DY cells off v.cells) rest:=by
 rw[Instr.fill,a];simp only;rw[zb (by simp[b];omega)];rfl
theorem DO (n) (b:Act) (e:b.tmps.size=n) (f:b.defers=[]):b=⟨((List.range n).map λk=>b.tmps.getD k undef).toArray,[]⟩:=by
 obtain⟨t,d⟩:=b;simp only at e f;subst f
 congr 1
 apply Array.ext
 .simp[e]
 .intro i a c;simp[a]
def slS (S:List Nat) (n m i:Nat):Nat:=if i<n then S.getD i 0 else m+i
theorem DN (w b:Act) (S:List Nat) (f:Nat->Value) (y:∀k,b.tmps.getD k undef=f k) (z:b.tmps.size=w.tmps.size) (B:b.defers=[]) (x:∀k,k<w.tmps.size->k∉S->b.tmps.getD k undef=w.tmps.getD k undef):
 b=⟨S.foldl (λt k=>t.setIfInBounds k (f k)) w.tmps,[]⟩:=by
 obtain⟨t,d⟩:=b;simp only at y z B x;subst B;have n:∀(S:List Nat) (j:Array Value),j.size=w.tmps.size->(S.foldl (λt k=>t.setIfInBounds k (f k)) j).size=w.tmps.size/\∀k,k<w.tmps.size->(S.foldl (λt k=>t.setIfInBounds k (f k)) j).getD k undef=if k∈S then f k else j.getD k undef:=by
  intro S
  induction S with
  | nil=>intro j l;exact⟨l,λk _=>by simp⟩
  | cons c S v=>
   intro j l;rw[ww];obtain⟨o,m⟩:=v (j.setIfInBounds c (f c)) (by rw[xL];exact l);refine⟨o,λk p=>?_⟩;rw[m k p];by_cases a:k∈S
   .rw[ze a,ze (xj _ a)]
   .rw[zb a];by_cases g:k=c
    .subst g;rw[ze xK];simp[xh,l,p]
    .rw[zb (by simp[g,a])];simp only[xh,yH,zb (yA g)]
 obtain⟨u,s⟩:=n S w.tmps rfl;have q:∀(A:Array Value) (i) (h),A[i]=A.getD i undef:=λA i h=>by simp[h]
 congr 1
 apply Array.ext
 .rw[u,z]
 .intro i o m;have r:i<w.tmps.size:=by omega
  rw[q _ i o,q _ i m,s i r];by_cases e:i∈S
  .rw[ze e];exact y i
  .rw[zb e];exact x i r e
theorem RW {P:Program} {l:List Oper} (hm:P.follows .mixedOrders=true) (hr:Ot l=true) (St) (X:St w w.drew) (Y:∀u u',St w u->St u u'->St w u') (m) (S:List Nat) (F)
 (Z:∀j v u u',St u u'->F j v u->F j v u') (n) (T:JQ l n=true)
 (hS:((S.length==n)&&S.all (λk=>decide (k<m))&&decide S.Nodup&&((l.take n).zipIdx.all λp=>p.1.guard.isNone&&p.1.dst==some (S.getD p.2 0)))=true)
 (W:a.tmps.size=m/\a.defers=[])
 (U:∀D b u,FI St m (slS S n m) F (λ_ _=>False) (λk v=>k<m/\k∉S/\a.tmps.getD k undef=v) w D b u->∀i o,i<n->l[i]?=some o->D i=false->(∀e∈o.after,Region.binds .any e=true->D e.on=true) ->
  o.wp P b u (λa' u'=>∃v,a'=b.put o.dst v/\St u u'/\F i v u') Q)
 (V:∀D b u,FI St m (slS S n m) F (λ_ _=>False) (λk v=>k<m/\k∉S/\a.tmps.getD k undef=v) w D b u->(∀i,i<n->D i=true)->∀o,l[n]?=some o->∀f:Nat->Value,(∀k,b.tmps.getD k undef=f k)->b=⟨S.foldl (λt k=>t.setIfInBounds k (f k)) a.tmps,[]⟩ ->
  o.wp P b u (λa' u'=>Q .normal a' u') Q):(Code.region id l.toArray true).wp P Q a w:=by
 simp only[yS,wX,xe]at hS;obtain⟨⟨⟨L,G⟩,z⟩,y⟩:=hS;have g:∀i,i<n->S.getD i 0<m:=λi d=>by
  have c:i<S.length:=by omega
  have:=xp.1 G S[i] (Nj c);rw[zt,zk c];simpa using this
 have E:∀i,i<n->S.getD i 0∈S:=λi d=>by
  have c:i<S.length:=by omega
  rw[zt,zk c];exact Nj c
 refine Zh hm hr St X Y m (slS S n m) F (λ_ _=>False) (λk v=>k<m/\k∉S/\a.tmps.getD k undef=v) Z (λ_ _ h=>h.elim) (λi j J=>?_) (λi k v x=>?_) n T ?_ ⟨W.1,W.2,λk v x=>x.2.2⟩ (λD b u q i o d K O R=>uN ?_ (U D b u q i o d K O R)) (λD b u q C o K=>V D b u q C o K _ (λ_=>rfl) (DN a b S _ (λ_=>rfl) (by rw[q.size,W.1]) q.dfs λk x I=>q.old k _ ⟨by rw[<-W.1];exact x,I,rfl⟩))
 .unfold slS;by_cases d:i<n
  .by_cases r:j<n
   .rw[ze d,ze r];intro h;have c:i<S.length:=(by omega);have s:j<S.length:=(by omega);rw[zt,zk c,zt,zk s]at h;rcases Nat.lt_or_gt_of_ne J with A|A
    .exact wy.1 z i j c s A h
    .exact wy.1 z j i s c A h.symm
   .rw[ze d,zb r];have:=g i d;omega
  .by_cases r:j<n
   .rw[zb d,ze r];have:=g j r;omega
   .rw[zb d,zb r];omega
 .obtain⟨N,H,_⟩:=x;unfold slS;by_cases d:i<n
  .rw[ze d];intro h;exact H (h▸E i d)
  .rw[zb d];omega
 .rw[xp]at y |-;intro p M;have:=y p M;simp only[yS,vj,wX]at this;have B:p.2<n:=by have c:=vH.1 M;have:=(zG.1 c).1;rw[Ni]at this;omega
  have e:slS S n m p.2=S.getD p.2 0:=by unfold slS;rw[ze B]
  simp only[e,yS,vj,wX,xe];exact⟨this,g _ B⟩
 .rintro a' u' ⟨v,c,s,A⟩;exact⟨v,c,s,A,λ_ h=>h.elim⟩
theorem kG: (prog.info? 3).map (λi=>(i.zero,i.size,i.bytes))=some (some (.int .i64 0),1,8):=by kernel_rfl
theorem qG: prog.underlying 33=some (.slice 3):=by kernel_rfl
theorem Dq (l):∀u∈ints l,u.oneCell'=true:=by intro u a;simp only[ints,yd]at a;obtain⟨x,_,rfl⟩:=a;rfl
def V6 (B:Nat) (l:List Int) (w:World) (e:Ending) (w':World):Prop:=∃v,e=.returned v/\w'.ownsRow B 3 1 v l.length (ints l)/\Below B w w'/\w.heap.size<=w'.heap.size
theorem mK (v) (l) (w) (h:tP w v l) (T:l.length<=1000000):
 Calls prog 70 #[v] w (V6 w l w):=by
 obtain⟨N,H,m,p,q⟩:=yX kG;have P:=Lib.hid H;have C:=Lib.hid m;have D:=Lib.hid p;have A:=Lib.hid q;clear H m p q;obtain⟨n,e⟩:=zA l.length;obtain⟨a,c,O,B⟩:∃a c,v=.slice a n c/\Hid (∀d,a=some d->∀j u,(ints l)[j]?=some u->w.cell? (d.add j)=some u)/\(a=none->n=0):=by
  obtain⟨S,⟨I,a,c,rfl⟩|⟨g,o,c,rfl,Q⟩⟩:=h
  .refine⟨a,c,by rw[e.o,I],λd _ j u x=>?_,λ_=>by rw[e.o];exact I⟩;have:=(zG.1 x).1;omega
  .refine⟨_,c,by rw[e.o],λd J j u x=>?_,λh=>by cases h⟩;cases J;have s:(⟨g,o,none⟩:Addr).add j=⟨g,o+j,none⟩:=(by unfold Addr.add;split<;>simp_all);rw[s];exact Q j u x
 obtain⟨B,F⟩:=B;subst O;have i:(ints l).length=n*1:=by rw[vB,e.o];simp[ints]
 have t:=Lib.hid i;rw[<-e.o]at T;clear i h;unfold V6;rw[<-e.o];have M:∀(w) (a) (n c y z),(binOp .eql 33 (.slice a n c) (.slice none y z)).run prog w=.ok (.bool a.isNone) w:=λw a n c y z=>Nw w _ _ a n c y z qG;cases a with
 | none=>
  have E:=Lib.hid (F rfl);clear F;go_enter func70,ntmps70;go_wp2;go_ret;exact⟨_,rfl,⟨t.o,zu ⟨rfl,E.o⟩⟩,zB,zL⟩
 | some d=>
  clear F;go_enter func70,ntmps70;go_wp2_with (at_builtin;refine yw _ rfl _ _ 33 rfl w.heap.size 3 N (.int .i64 0) 1 8 qG P.o C.o D.o A.o rfl (by decide) _ _ _ rfl (ub w #[] 0 zL zZ rfl) d n c (ints l) rfl ?qc1 ?qc2 ?qc3 ?qc4 ?qc5 ?qc6 ?_)
  case qc1=>exact t.o
  case qc2 =>intro j u x;have:=B.o d rfl j u x;rw[xR _ _ _ (zy this)];exact this
  case qc3=>exact Dq l
  case qc4=>unfold maxLen;omega
  case qc5=>omega
  case qc6=>simp
  intro K R f b r;have G:=((xW _ w).alloc zL _).grown b (by simp) (by intro k L;simp[Value.ownBlock]at L;omega);clear b r;go_wp2;go_ret;exact⟨K,rfl,f,G,G.size⟩
abbrev En:=ByteArray×Int
def ents (l:List En):List Value:=l.flatMap λx=>[.string x.1,.int .i64 x.2]
theorem NO (l):(ents l).length=l.length*2:=by
 induction l with
 | nil=>rfl
 | cons x l a=>simp only[ents,Nm,zl,yv,xC]at *;omega
theorem ro (a b):ents (a++b)=ents a++ents b:=by simp[ents]
theorem fU (l) (k) (hk):(ents l)[k*2]?=some (.string l[k].1)/\(ents l)[k*2+1]?=some (.int .i64 l[k].2):=by
 induction l generalizing k with
 | nil=>simp at hk
 | cons x l a=>
  cases k with
  | zero=>simp[ents]
  | succ k=>
   have:=a k (by simpa using hk);simp only[ents,Nm,tD,yJ]at this |-;rw[show (k+1)*2=k*2+1+1 by omega,show k*2+1+1+1=(k*2+1)+1+1 by omega];simpa using this
def qM (w:World) (v:Value) (l:List En):Prop:=uq w v 2 l.length (ents l)
theorem kJ {l:List En} (h:qM w v l) (N) (f:N=l.length):∃p cp,v=.slice p N cp/\(0<N->∃g o,p=some ⟨g,o,none⟩/\g<w.heap.size/\∀k (hk),w.cell? ⟨g,o+k*2,none⟩=some (.string l[k].1)/\w.cell? ⟨g,o+(k*2+1),none⟩=some (.int .i64 l[k].2)):=by
 subst f;obtain⟨_,⟨b,d,e,rfl⟩|⟨g,o,a,rfl,c⟩⟩:=h
 .exact⟨d,e,by rw[b],λh=>by omega⟩
 .refine⟨_,a,rfl,λb=>⟨g,o,rfl,zy (c _ _ (fU l 0 b).1),λk hk=>⟨c _ _ (fU l k hk).1,c _ _ (fU l k hk).2⟩⟩⟩
theorem Tw (l):∀u∈ents l,u.oneCell'=true:=by intro u a;unfold ents at a;obtain⟨x,_,a⟩:=Np.1 a;simp at a;rcases a with rfl|rfl<;>rfl
theorem OY: (prog.info? 112).map (λi=>(i.zero,i.size,i.bytes))=some (some (.agg #[.string {data:=#[]},()]),2,24):=by kernel_rfl
theorem D6: prog.underlying 108=some (.slice 112):=by kernel_rfl
def lz (B:Nat) (l:List En) (w:World) (e:Ending) (w':World):Prop:=∃v,e=.returned v/\w'.ownsRow B 112 2 v l.length (ents l)/\Below B w w'/\w.heap.size<=w'.heap.size
theorem Tz (v) (l:List (ByteArray×Int)) (w) (h:uq w v 2 l.length (ents l)) (T:l.length<=1000000):
 Calls prog 186 #[v] w (lz w l w):=by
 obtain⟨N,H,m,p,q⟩:=yX OY;have P:=Lib.hid H;have C:=Lib.hid m;have D:=Lib.hid p;have A:=Lib.hid q;clear H m p q;obtain⟨n,e⟩:=zA l.length;obtain⟨a,c,O,B⟩:∃a c,v=.slice a n c/\Hid (∀d,a=some d->∀j u,(ents l)[j]?=some u->w.cell? (d.add j)=some u)/\(a=none->n=0):=by
  obtain⟨S,⟨I,a,c,rfl⟩|⟨g,o,c,rfl,Q⟩⟩:=h
  .refine⟨a,c,by rw[e.o,I],λd _ j u x=>?_,λ_=>by rw[e.o];exact I⟩;have:=(zG.1 x).1;omega
  .refine⟨_,c,by rw[e.o],λd J j u x=>?_,λh=>by cases h⟩;cases J;have s:(⟨g,o,none⟩:Addr).add j=⟨g,o+j,none⟩:=(by unfold Addr.add;split<;>simp_all);rw[s];exact Q j u x
 obtain⟨B,F⟩:=B;subst O;have i:(ents l).length=n*2:=by rw[NO,<-e.o]
 have t:=Lib.hid i;rw[<-e.o]at T;clear i h;unfold lz;rw[<-e.o];have M:∀(w) (a) (n c y z),(binOp .eql 108 (.slice a n c) (.slice none y z)).run prog w=.ok (.bool a.isNone) w:=λw a n c y z=>Nw w _ _ a n c y z D6;cases a with
 | none=>
  have E:=Lib.hid (F rfl);clear F;go_enter func186,ntmps186;go_wp2;go_ret;exact⟨_,rfl,⟨t.o,zu ⟨rfl,E.o⟩⟩,zB,zL⟩
 | some d=>
  clear F;go_enter func186,ntmps186;go_wp2_with (at_builtin;refine yw _ rfl _ _ 108 rfl w.heap.size 112 N (.agg #[.string {data:=#[]},()]) 2 24 D6 P.o C.o D.o A.o rfl (by decide) _ _ _ rfl (ub w #[] 0 zL zZ rfl) d n c (ents l) rfl ?qc1 ?qc2 ?qc3 ?qc4 ?qc5 ?qc6 ?_)
  case qc1=>exact t.o
  case qc2 =>intro j u x;have:=B.o d rfl j u x;rw[xR _ _ _ (zy this)];exact this
  case qc3=>exact Tw l
  case qc4=>unfold maxLen;omega
  case qc5=>omega
  case qc6=>simp
  intro K R f b r;have G:=((xW _ w).alloc zL _).grown b (by simp) (by intro k L;simp[Value.ownBlock]at L;omega);clear b r;go_wp2;go_ret;exact⟨K,rfl,f,G,G.size⟩
section
variable {P : Program} {ops : Array Oper} {md : Region.Mode} {C : World->Prop}
def Du (P:Program) (md:Region.Mode) (ops:Array Oper) (C:World->Prop) (n:Nat) (T:Array Bool->Act->Prop):Nat->Array Bool->Act->Prop
 | 0,done,a=>T done a
 | f+1,done,a=>Region.ready md ops done≠[]/\∀i∈Region.ready md ops done,i<n/\qOp P ops C i (Du P md ops C n T f (done.setIfInBounds i true)) a
theorem QQ {n g:Nat} {T:Array Bool->Act->Prop} {Q:Exit->Act->World->Prop} (m:∀done a w,C w->T done a->wpAny P md ops Q g done a w):
 ∀(f) (done) (a) (w),C w->Du P md ops C n T f done a->wpAny P md ops Q (f+g) done a w
 | 0,done,a,w,b,h=>by rw[yF];exact m _ _ _ b h
 | f+1,done,a,w,b,h=>by rw[show f+1+g=(f+g)+1 by omega];exact⟨λk=>yi k h.1,λi l=>wpOp_of_qOp b (λj e c d=>QQ m f _ j e c d) (h.2 i l).2⟩
theorem Xi {oi:Oper} {T:Array Bool->Act->Prop} (N:ops[i]?=some oi) (L:∀(j:Nat) (o) cs b,ops[j]?=some o->o.op≠.select cs b)
 (O:Region.sinkB md ops n=true) (Q:Region.chainB md ops n=true) (R:n<ops.size) (M:i<n) (S:∀done a,T done a->∀j∈Region.ready md ops done,n<=j) (f):
 ∀(done) (a),HeadInv md ops n done ->
  (∀j oj,ops[j]?=some oj->j≠i->done.getD j true=false->(∀e∈oj.after,Region.binds md e=true->e.on≠i)->oi.apart ops oj=true) ->
  i∈Region.ready md ops done->YieldsIn P ops C oi v a->Du P md ops C n T f (done.setIfInBounds i true) (a.put oi.dst v)->Du P md ops C n T (f+1) done a:=by
 induction f with
 | zero=>
  intro done a g _ s x H;have m:=(rc.1 s).1;refine⟨List.ne_nil_of_mem s,λj r=>?_⟩;have l:=Nat.lt_of_not_le λh=>tail_waits O Q R g _ i rfl M m j h r;refine⟨l,?_⟩;by_cases c:j=i
  .subst c;exact x.qOp N H
  .exact yi (S _ _ H j (ready_mono r c)) (by omega)
 | succ f K=>
  intro done a g d s x H;have m:=(rc.1 s).1;refine⟨List.ne_nil_of_mem s,λj r=>?_⟩;have l:=Nat.lt_of_not_le λh=>tail_waits O Q R g _ i rfl M m j h r;refine⟨l,?_⟩;by_cases c:j=i
  .subst c;exact x.qOp N H
  .obtain⟨p,oj,q,w⟩:=rc.1 r;have y:∀e∈oj.after,Region.binds md e=true->e.on≠i:=λe J F B=>(by have D:=w e J F;rw[B,getD_both m]at D;cases D);refine qOp_mono (λI E=>K (done.setIfInBounds j true) I (g.set r l) ?_ (ready_mono s (yA c)) E.1 ?_) (qOp_put q (d j oj q c p y) (λcs b=>L i oi cs b N) (λcs b=>L j oj cs b q) x (H.2 j (ready_mono r c)).2)
   .intro k ok G A u z;refine d k ok G A ?_ z;by_cases t:j=k
    .subst t;exact p
    .rw[getD_set_ne true t]at u;exact u
   .rw[Array.setIfInBounds_comm _ _ c];exact E.2
theorem kp {n g:Nat} {T:Act->Prop} (y:Region.noSelect ops=true) (z:Region.sinkB md ops n=true) (A:Region.chainB md ops n=true) (B:n<ops.size):
 ∀(l) (k) (done) (a),(∀j,j<l.length->l[j]?=ops[k+j]?)->k+l.length=n->HeadInv md ops n done ->
 Region.lexHead md ops g l.length k done=true->wpQuiet P ops C T l a ->
 Du P md ops C n (λdone' a'=>Region.seqB md ops g n done'=true/\T a') l.length done a
 | [],k,done,a,_,f,_,i,h=>by
  obtain rfl:k=n:=by simpa using f
  exact⟨by simpa[Region.lexHead]using i,h⟩
 | o::l,k,done,a,q,f,d,i,h=>by
  have e:ops[k]?=some o:=by simpa using (q 0 (by simp)).symm
  simp only[yv,Region.lexHead,yS]at i;obtain⟨⟨w,t⟩,p⟩:=i;have b:k<n:=by simp only[yv]at f;omega
  have c:k∈Region.ready md ops done:=by simpa using w
  have m:qOp P ops C k (wpQuiet P ops C T l) a:=by unfold qOp;simp only[e];exact h
  obtain⟨v,u,r⟩:=yieldsIn_of_qOp e m;exact Xi e (Region.noSelect_spec y) z A B b (λdone' a' s=>seqB_ready s.1) l.length done a d (Region.free_spec e t) c u
   (kp y z A B l (k+1) _ _ (λj x=>by have:=q (j+1) (by simp;omega);simpa[yp,MZ 1 j]using this) (by simp only[yv]at f;omega) (d.set c b) p r)
theorem fF {l:List Oper} (n) (C:P.follows .mixedOrders=true) (hB:Region.lexTailB .any l.toArray n=true)
 (h:wpQuiet P l.toArray (λw'=>∃p:Regrown,w'=Sort.grow (redrawn w p.d) p.os) (λa'=>∀w',(∃p:Regrown,w'=Sort.grow (redrawn w p.d) p.os)->wpList P l.toArray Q (l.drop n) a' w') (l.take n) a):(Code.region id l.toArray true).wp P Q a w:=by
 simp only[Region.lexTailB,yS,xe]at hB;obtain⟨⟨⟨⟨k,u⟩,z⟩,A⟩,i⟩:=hB;have y:n<l.length:=by simpa using u
 have b:(l.take n).length=n:=by simp;omega
 have m:(l.drop n).length=l.toArray.size-n:=by simp
 have f:HeadInv .any l.toArray n (Array.replicate l.toArray.size false):=
  ⟨by simp,λj B _ s=>(by rw[getD_replicate_false]at s;cases s),λt _ x=>getD_in (by simpa using x) (getD_replicate_false _ _)⟩
 have H:=kp (md:=.any) (g:=l.toArray.size-n) k z A u (l.take n) 0 _ a (λj v=>by
  have q:j<n:=by rw[b]at v;exact v
  simp[q]) (by simpa using b) f (by rw[b];exact i) h
 refine wp_region_any C ?_;have c:∃p:Regrown,({w with drawn:=w.drawn+1})=Sort.grow (redrawn w p.d) p.os:=regrown_of_below ⟨rfl,rfl,rfl,zL,λ_ _=>rfl⟩;have:=QQ (Q:=Q) (g:=l.toArray.size-n) (λe a' w' o r=>by
  have:=wpAny_of_seq (md:=.any) (Q':=Q) (l.drop n) n e a' w' (λj=>by simp[yy]) (by rw[m];exact r.1) (r.2 w' o)
  rwa [m]at this) _ _ _ _ c H
 rw[b,show n+(l.toArray.size-n)=l.toArray.size by omega]at this;exact this
end
section
variable {P : Program} {l : List Oper}
structure FJ (J:(Nat->Bool)->(Nat->Value)->World->Prop) (m:Nat) (sl:Nat->Nat) (F:Nat->Value->Prop) (old:Nat->Value->Prop) (D:Nat->Bool) (a:Act) (u:World):Prop where
 j:J D (λi=>a.tmps.getD (sl i) undef) u
 size:a.tmps.size=m
 dfs:a.defers=[]
 old:∀k v,old k v->a.tmps.getD k undef=v
 fact:∀i,D i=true->F i (a.tmps.getD (sl i) undef)
theorem RX (S:P.follows .mixedOrders=true) (T:Ot l=true) (J) (m) (I:Nat->Nat) (F) (old)
 (K:∀i j,i≠j->I i≠I j) (M:∀i k v,old k v->k≠I i)
 (R:(l.zipIdx.all λp=>p.1.guard.isNone&&p.1.dst==(if I p.2<m then some (I p.2) else none))=true)
 (O:a.tmps.size=m/\a.defers=[]/\(∀k v,old k v->a.tmps.getD k undef=v)/\J (λ_=>false) (λi=>a.tmps.getD (I i) undef) w.drew)
 (L:∀D a u,FJ J m I F old D a u->∀i o,l[i]?=some o->D i=false->(∀e∈o.after,Region.binds .any e=true->D e.on=true) ->
  o.wp P a u (λa' u'=>∃v,a'=a.put o.dst v/\(m<=I i->v=undef)/\F i v/\∀g,g i=v->(∀k,k≠i->g k=a.tmps.getD (I k) undef)->J (upd D i) g u') Q)
 (N:∀D a u,FJ J m I F old D a u->(∀i,i<l.length->D i=true)->Q .normal a u):(Code.region id l.toArray true).wp P Q a w:=by
 refine mq S T (FJ J m I F old) ?_ ?_ N
 .exact⟨O.2.2.2,O.1,O.2.1,O.2.2.1,λi G=>by simp at G⟩
 .intro D a u h i o s B H;have E:=(zG.1 s).1;have z:=xp.1 R (o,i) (by rw[vH];exact s);simp only[yS,vj,wX]at z;obtain⟨A,r⟩:=z;refine PF A (uN ?_ (L D a u h i o s B H));rintro a' u' ⟨v,rfl,C,x,y⟩;by_cases f:I i<m
  .rw[ze f]at r;rw[r];have q:I i<a.tmps.size:=(by rw[h.size];exact f);have b:(a.put (some (I i)) v).tmps.getD (I i) undef=v:=(by show (a.tmps.setIfInBounds (I i) v).getD (I i) undef=v;simp[xh,q]);have d:∀k,k≠I i->(a.put (some (I i)) v).tmps.getD k undef=a.tmps.getD k undef:=λk n=>(by show (a.tmps.setIfInBounds (I i) v).getD k undef=_;simp only[xh,yH,zb (yA n)]);refine⟨y _ b λk n=>d _ (K k i n),?_,h.dfs,λk v n=>?_,λj t=>?_⟩
   .show (a.tmps.setIfInBounds (I i) v).size=m;rw[xL];exact h.size
   .rw[d k (M i k v n)];exact h.old k v n
   .by_cases c:j=i
    .subst c;rw[b];exact x
    .rw[d _ (K j i c)];exact h.fact j (pz t c)
  .rw[zb f]at r;rw[r];obtain rfl:=C (by omega);have b:a.tmps.getD (I i) undef=undef:=(by have:¬I i<a.tmps.size:=(by rw[h.size];exact f);simp only[xh];rw[zY (by omega)];rfl);refine⟨y _ b λk _=>rfl,h.size,h.dfs,h.old,λj t=>?_⟩;by_cases c:j=i
   .subst c;show F j (a.tmps.getD (I j) undef);rw[b];exact x
   .exact h.fact j (pz t c)
end
theorem jD {o:Nat} {R A:Array Value} (h:w.heap[g]?=some (.cells R t fr)) (c:∀j,j<A.size->R[o+j]?=A[j]?):w.rangeAt g o A.toList:=λj v b=>by
 have a:j<A.size:=by have:=(zG.1 b).1;simpa using this
 rw[zC h,c j a,<-b,zK]
theorem kF (h:tP w v l):∃p cp,v=.slice p l.length cp/\Hid (0<l.length->∃g o,p=some ⟨g,o,none⟩/\∀(j) (x),(ints l)[j]?=some x->w.cell? ⟨g,o+j,none⟩=some x):=by
 obtain⟨_,⟨d,b,c,rfl⟩|⟨g,o,a,rfl,e⟩⟩:=h
 .exact⟨b,c,by rw[d],λh=>by omega⟩
 .exact⟨_,a,rfl,λ_=>⟨g,o,rfl,e⟩⟩
def idxL (l:List Int) (x:Int):Int:=match l.findIdx? (λy=>y==x) with|some k=>k|none=> -1
theorem i9 (v) (l) (x) (w) (h:tP w v l) (F:l.length<=1000000):
 Calls prog 107 #[v,(x:Int)] w λe w'=>e=.returned (idxL l x:Int)/\w=w':=by
 obtain⟨p,E,rfl,z⟩:=kF h;obtain⟨N,d⟩:=zD l.length;rw[d.o]at F z;rw[d.o];clear h;go_enter func107,ntmps107;go_wp2
 go_loop [8] (λi=>∃k:Nat,k<=N/\i=.int .i64 k/\Hid (∀j (b:j<l.length),j<k->l[j]≠x)) (λi=>N-(intOf i).toNat)
 .exact⟨0,yh _,rfl,λj _ h=>yi h (MA j)⟩
 .obtain⟨k,C,rfl,s⟩:=hrel;by_cases f:k<N
  .obtain⟨g,o,rfl,u⟩:=z.o (by omega);have c:k<l.length:=(by rw[d.o];exact f);have q:=pQ l k c;obtain⟨y,n⟩:=zD (l[k]);rw[n.o]at q;have D:=u _ _ q;have t:k<(N:Int):=(by omega);clear u q;by_cases a:x=y
   .have m:Hid (idxL l x=k):=(by show _=_;unfold idxL;have:l.findIdx? (λy=>y==x)=some k:=(by rw[xG];exact⟨c,by rw[n.o,a];simp,λj b=>by simpa using s.o j (by omega) b⟩);rw[this]);subst a;go_wp2;go_ret;rw[m.o];exact⟨rfl,rfl⟩
   .have r:Hid (∀j (b),j<k+1->l[j]≠x):=λj b h=>by
     by_cases e:j=k
     .subst e;rw[n.o];exact λe=>a e.symm
     .exact s.o j b (by omega)
    have B:(x==y)=false:=(by simpa using a);clear a;go_wp2
    go_round
    .exact⟨k+1,by omega,by go_num,r⟩
    .simp[intOf];omega
  .have m:Hid (idxL l x = -1):=(by show _=_;unfold idxL;have:l.findIdx? (λy=>y==x)=none:=(by rw[vl];intro y A;obtain⟨j,b,rfl⟩:=wv A;simpa using s.o j b (by rw[d.o]at b;omega));rw[this]);go_wp2;go_ret;rw[m.o];exact⟨rfl,rfl⟩
theorem hH (l) (x):decide (0<=idxL l x)=l.contains x:=by
 unfold idxL;cases h:l.findIdx? λy=>y==x with
 | none=>
  rw[vl]at h;rw[show decide (0<=(-1:Int))=false from rfl]
  symm
  rw[<-Nr];intro c;have:=h x (by simpa using c);simp at this
 | some k=>
  rw[xG]at h;obtain⟨b,a,_⟩:=h;rw[zX (show (0:Int)<=(k:Int) by omega)]
  symm
  simp only[vK,wX]at *
  rw[<-a];exact Nj b
theorem Zp (v) (l) (x) (w) (h:tP w v l) (m:l.length<=1000000):
 Calls prog 54 #[v,(x:Int)] w λe w'=>e=.returned (.bool (l.contains x))/\w=w':=by
 have g:=Lib.hid (i9 v l x w h m);obtain⟨p,j,rfl,_⟩:=kF h;have f:=Lib.hid (hH l x);have d: -1<=idxL l x/\idxL l x<=1000000:=by
  unfold idxL;cases a:l.findIdx? λy=>y==x with
  | none=>exact⟨by simp,by simp⟩
  | some k=>
   rw[xG]at a;obtain⟨i,_⟩:=a;exact⟨by show (-1:Int)<=(k:Int);omega,by show (k:Int)<=1000000;omega⟩
 obtain⟨c,b⟩:=d;clear h m;generalize idxL l x=q at *
 go_enter func54,ntmps54
 go_wp2_with fail
 refine g.o.mono ?_;rintro e w' ⟨rfl,rfl⟩;go_wp2;go_ret;rw[<-f.o];exact⟨rfl,rfl⟩
theorem mv {a:World} (h:Below B a w) (n:Nat):Below B a (w.drewN n):=⟨h.os,h.tape,h.output,h.size,h.block⟩
def RT (a b:List Int):Bool:=decide (a=b)
theorem PW (u v:Value) (a b:List Int) (w:World) (h1:uM w u a) (h2:uM w v b) (aa:a.length=b.length) (hl:a.length<=1000000):
 Calls prog 78 #[u,v] w (κ w (.bool (RT a b))):=by
 obtain⟨N,t⟩:=zA a.length;have m:Hid (N=b.length):=by rw[t.o];exact aa
 obtain⟨p,B,Q,S⟩:∃p B,u=.slice p N B/\Hid (0<N->∃g o,p=some ⟨g,o,none⟩/\∀(j:Nat) (x:Value),(u8s a)[j]?=some x->w.cell? ⟨g,o+j,none⟩=some x):=by
  rw[t.o];obtain⟨_,⟨C,J,K,rfl⟩|⟨g,o,l,rfl,n⟩⟩:=h1
  .exact⟨J,K,by rw[C],λh=>by omega⟩
  .exact⟨_,l,rfl,λ_=>⟨g,o,rfl,n⟩⟩
 obtain⟨q,cq,R,O⟩:∃p B,v=.slice p N B/\Hid (0<N->∃g o,p=some ⟨g,o,none⟩/\∀(j:Nat) (x:Value),(u8s b)[j]?=some x->w.cell? ⟨g,o+j,none⟩=some x):=by
  rw[m.o];obtain⟨_,⟨C,J,K,rfl⟩|⟨g,o,l,rfl,n⟩⟩:=h2
  .exact⟨J,K,by rw[C],λh=>by omega⟩
  .exact⟨_,l,rfl,λ_=>⟨g,o,rfl,n⟩⟩
 subst Q R;rw[<-t.o]at hl;clear h1 h2 aa;go_enter func78,ntmps78;go_wp2;go_loopw [13] (λi wr=>∃k:Nat,k<=N/\i=.int .i64 k/\Hid (a.take k=b.take k)/\Below w w wr) (λi _=>N-(intOf i).toNat)
 .exact⟨0,yh _,rfl,rfl,zB⟩
 .obtain⟨k,V,rfl,M,A⟩:=hrel;by_cases r:k<N
  .obtain⟨g,o,rfl,n⟩:=S.o (by omega);obtain⟨X,o',rfl,f⟩:=O.o (by omega);have s:k<a.length:=(by rw[<-t.o];exact r);have z:k<b.length:=(by rw[<-m.o];exact r);have F:=Ch a k s;have E:=Ch b k z;obtain⟨x,I⟩:=zA (a[k]);obtain⟨y,H⟩:=zA (b[k]);rw[<-I.out]at F;rw[<-H.out]at E;have d:∀{x:Addr} {y:Value},w.cell? x=some y->wr.cell? x=some y:=λh=>(A.cell (zy h)).trans h;have Z:=d (n _ _ F);have W:=d (f _ _ E);have Y:=Lib.hid n;have P:=Lib.hid f;clear n f F E d;have L:(k:Int)<(N:Int):=(by omega);by_cases c:x=y
   .have G:Hid (a.take (k+1)=b.take (k+1)):=(by show _=_;rw[<-zU s,<-zU z,M.o,<-I.out,<-H.out,c]);subst c;go_wp2
    go_quiet (fail)
    go_wp2;go_roundw
    .exact⟨k+1,by omega,by go_num,G,mv A _⟩
    .simp[intOf];omega
   .have D:Hid (RT a b=false):=(by show _=_;unfold RT;rw[zz];intro e;apply c;rw[I.out,H.out];subst e;rfl);have U:(x==y)=false:=(by simpa using c);have b2:(x != y)=true:=(by simpa using c);have T:=Lib.hid c;clear c;go_wp2
    go_quiet (fail)
    go_wp2;go_ret;rw[D.o];exact⟨rfl,mv A _⟩
  .have D:Hid (RT a b=true):=(by show _=_;unfold RT;rw[yx];have:=M.o;rw[zo (by rw[<-t.o];omega),zo (by rw[<-m.o];omega)]at this;exact this);go_wp2;go_ret;rw[D.o];exact⟨rfl,A⟩
theorem gA : ∀x,Op.bytesLess x x=false
 | []=>rfl
 | a::x=>by have h:=UInt8.lt_irrefl a;simp[Op.bytesLess,h,gA x]
theorem Sg : ∀x y z,Op.bytesLess x y=true->Op.bytesLess y z=true->Op.bytesLess x z=true
 | _,[],_,h,_=>by simp[Op.bytesLess]at h
 | _,_::_,[],_,h=>by simp[Op.bytesLess]at h
 | [],_::_,_::_,_,_=>by simp[Op.bytesLess]
 | a::x,b::y,c::z,e,d=>by
  simp only[Op.bytesLess,MK,xe,yS,wX]at *
  rcases e with e|⟨rfl,e⟩
  .rcases d with d|⟨rfl,d⟩
   .exact zu (UInt8.lt_trans e d)
   .exact zu e
  .rcases d with d|⟨rfl,d⟩
   .exact zu d
   .exact zw ⟨rfl,Sg x y z e d⟩
theorem Sh : ∀x y,Op.bytesLess x y=false->Op.bytesLess y x=false->x=y
 | [],[],_,_=>rfl
 | [],_::_,h,_=>by simp[Op.bytesLess]at h
 | _::_,[],_,h=>by simp[Op.bytesLess]at h
 | a::x,b::y,e,d=>by
  simp only[Op.bytesLess,vO,zz,sj,yU]at *
  have c:a=b:=by
   apply UInt8.le_antisymm
   .exact UInt8.not_lt.1 d.1
   .exact UInt8.not_lt.1 e.1
  subst c;rw[Sh x y (e.2.resolve_left (by simp)) (d.2.resolve_left (by simp))]
def lexB (a b:ByteArray):Bool:=Op.bytesLess a.toList b.toList
theorem WS {a:ByteArray} (h:a.toList=b.toList):a=b:=by rw[Lib.toList_data,Lib.toList_data]at h;cases a;cases b;simp only at h;rw[Array.toList_inj]at h;rw[h]
theorem RD (a):lexB a a=false:=gA _
theorem rA {a c:ByteArray} (d:lexB a b=true) (e:lexB b c=true):lexB a c=true:=Sg _ _ _ d e
theorem jd {a:ByteArray} (c:lexB a b=false) (d:lexB b a=false):a=b:=WS (Sh _ _ c d)
def cmpB (a b:ByteArray):Int:=if lexB a b then -1 else if a=b then 0 else 1
def tM (s:ByteArray):Bool:= !(s.toList==[])&&decide (s.size<=14)&&!(s.toList==[46])&&!(s.toList==[46,46])&&!(s.data.toList.contains 0)&&!(s.data.toList.contains 47)
def okE (x:En):Bool:=tM x.1&&decide (1<=x.2)&&decide (x.2<=32)
def rD (S:List En):List En->Int
 | []=>0
 | x::l=>if okE x=false then 3 else if S.any (λy=>decide (y.1=x.1)) then 5 else rD (S++[x]) l
def ud (l:List En):Int:=if 32<l.length then 2 else rD [] l
theorem Jl (l):∀S,(S.map (·.1)).Nodup->(rD S l=0↔(∀x∈l,okE x=true)/\((S++l).map (·.1)).Nodup):=by
 induction l with
 | nil=>intro S j;simpa[rD]using j
 | cons x l p=>
  intro S j;unfold rD;by_cases d:okE x=false
  .rw[ze d];refine⟨λh=>yi h (by decide),λh=>?_⟩;have:=h.1 x (by simp);rw[d]at this;cases this
  .rw[zb d];have i:okE x=true:=(by simpa using d);by_cases c:(S.any λy=>decide (y.1=x.1))=true
   .rw[ze c];refine⟨λh=>yi h (by decide),λh=>?_⟩;obtain⟨y,g,n⟩:=xO.1 c;have f:y.1=x.1:=(by simpa using n);have m:=h.2;rw[yo,wl]at m;exact yi f (m.2.2 y.1 (yd.2 ⟨y,g,rfl⟩) x.1 (by simp))
   .rw[zb c,p (S++[x])]
    .rw[zR];simp only[tD,yJ,yZ,forall_eq_or_imp];simp[i]
    .rw[yo,wl];refine⟨j,by simp,λa o b k e=>c ?_⟩;obtain⟨y,g,rfl⟩:=yd.1 o;simp at k;rw[xO];exact⟨y,g,by simp[e,k]⟩
theorem qO (l):ud l=0↔l.length<=32/\(∀x∈l,okE x=true)/\(l.map (·.1)).Nodup:=by
 unfold ud;by_cases h:32<l.length
 .rw[ze h];exact⟨λh=>yi h (by decide),λa=>by omega⟩
 .rw[zb h,Jl l [] (by simp)];simp;omega
theorem Ov {l m:List En} (h:l.Perm m):ud l=0↔ud m=0:=by rw[qO,qO,h.length_eq,(h.map (·.1)).nodup_iff];simp only[h.mem_iff]
def sy (S:List En):Prop:=S.Pairwise λa b=>lexB a.1 b.1=true
theorem Pe : ∀{S T},S.Perm T->sy S->sy T->S=T
 | [],T,h,_,_=>by simpa using h.symm
 | x::S,[],h,_,_=>by simp at h
 | x::S,y::T,h,c,d=>by
  unfold sy at c d;rw[xY]at c d;have e:x=y:=by
   have b:x∈y::T:=h.mem_iff.1 (by simp);have a:y∈x::S:=h.mem_iff.2 (by simp);rcases yZ.1 b with b|b
   .exact b
   rcases yZ.1 a with a|a
   .exact a.symm
   have f:=rA (d.1 x b) (c.1 y a);rw[RD]at f;cases f
  subst e;rw[Pe (S:=S) (T:=T) ((List.perm_cons x).1 h) c.2 d.2]
theorem ik {S:List En} (h:S.Pairwise λa b=>lexB b.1 a.1=false) (f:(S.map (·.1)).Nodup):sy S:=by
 induction S with
 | nil=>exact List.Pairwise.nil
 | cons x S d=>
  rw[xY]at h;rw[yB,vZ]at f;refine xY.2 ⟨λy c=>?_,d h.2 f.2⟩;cases e:lexB x.1 y.1 with
  | true=>rfl
  | false=>exact yi (yd.2 ⟨y,c,(jd e (h.1 y c)).symm⟩) f.1
theorem sy.nodup {S:List En} (h:sy S):(S.map (·.1)).Nodup:=by unfold sy at h;rw[List.Nodup,wU];exact h.imp λa b=>by rw[b,RD]at a;cases a
def PQ (n:Nat):Nat->Nat->List Nat
 | 0,_=>[]
 | f+1,at_=>if at_<n then PQ n f (2*at_+1)++at_::PQ n f (2*at_+2) else []
theorem mH (n):∀f g at_,n<=at_+f->n<=at_+g->PQ n f at_=PQ n g at_
 | 0,0,_,_,_=>rfl
 | 0,g+1,at_,h,_=>by rw[PQ,PQ,zb (by omega)]
 | f+1,0,at_,_,h=>by rw[PQ,PQ,zb (by omega)]
 | f+1,g+1,at_,b,a=>by
  rw[PQ,PQ];by_cases h:at_<n
  .rw[ze h,ze h,mH n f g _ (by omega) (by omega),mH n f g (2*at_+2) (by omega) (by omega)]
  .rw[zb h,zb h]
def ino (n at_:Nat):List Nat:=PQ n n at_
theorem Vv (h:n<=at_):ino n at_=[]:=by
 unfold ino;cases n with
 | zero=>rfl
 | succ n=>rw[PQ,zb (by omega)]
theorem i8 (h:at_<n):ino n at_=ino n (2*at_+1)++at_::ino n (2*at_+2):=by
 cases n with
 | zero=>omega
 | succ n=>
  show PQ (n+1) (n+1) at_=_;rw[PQ,ze h];unfold ino;rw[mH (n+1) n (n+1) (2*at_+1) (by omega) (by omega),mH (n+1) n (n+1) (2*at_+2) (by omega) (by omega)]
def inoOk (n:Nat):Bool:=decide (PQ n n 0).Nodup&&(PQ n n 0).length==n&&(PQ n n 0).all (· < n)
theorem Xf: (List.range 33).all inoOk=true:=by decide +kernel
theorem N7 (h:n<=32):(ino n 0).Nodup/\(ino n 0).length=n/\∀m∈ino n 0,m<n:=by have:=(xp.1 Xf) n (xy.2 (by omega));unfold inoOk at this;simp only[yS,xe,wX,xp]at this;exact⟨this.1.1,this.1.2,this.2⟩
def putE (D:List Int) (p:Nat×En):List Int:=(over D (16*p.1) (bI p.2.1)).set (16*p.1+14) p.2.2
def layF (D:List Int) (P:List (Nat×En)):List Int:=P.foldl putE D
theorem Vt (D) (P Q):layF D (P++Q)=layF (layF D P) Q:=by unfold layF;rw[xf]
def rowE (x:En):List Int:=bI x.1++List.replicate (14-x.1.size) 0++[x.2,0]
def PU (D:List Int) (q:Nat):List Int:=(D.drop (16*q)).take 16
theorem Q2 {E:List Int} {o:Nat} (h:o+E.length<=D.length):(over D o E).length=D.length:=by unfold over;rw[zl,zl,Ni,Nk];omega
theorem Hu {x:En} (h:16*q+16<=D.length) (a:x.1.size<=14):(putE D (q,x)).length=D.length:=by unfold putE;rw[xT,Q2];rw[RN];show 16*q+x.1.size<=_;omega
theorem Wi {x:En} (h:16*q+16<=D.length) (g:x.1.size<=14) (j:Nat):(putE D (q,x))[j]?=if j=16*q+14 then some x.2 else if 16*q<=j/\j<16*q+x.1.size then (bI x.1)[j-16*q]? else D[j]? :=by
 have b:(bI x.1).length=x.1.size:=RN _;unfold putE;rw[pu];by_cases a:j=16*q+14
 .rw[ze a.symm,ze a,ze];rw[Q2 (by rw[b];omega)];omega
 .rw[zb (λe=>a e.symm),zb a];unfold over;by_cases d:j<16*q
  .rw[zb (by omega),zV (by rw[Ni];omega),zI,ze d]
  .have c:(D.take (16*q)).length=16*q:=(by rw[Ni];omega);rw[zx (by rw[c];omega),c];by_cases f:j<16*q+x.1.size
   .rw[ze ⟨by omega,f⟩,zV (by rw[b];omega)]
   .rw[zb (by omega),zx (by rw[b];omega),yy,b]
    congr 1
    omega
theorem jc (D) (q i):(PU D q)[i]?=if i<16 then D[16*q+i]? else none:=by unfold PU;rw[zI,yy]
theorem NB {x:En} (h:16*q+16<=D.length) (a:x.1.size<=14) (b:m≠q):PU (putE D (q,x)) m=PU D m:=by
 apply wV;intro i;rw[jc,jc];split
 .rw[Wi h a,zb (by omega),zb (by omega)]
 .rfl
theorem lU {x:En} (h:16*q+16<=D.length) (j:x.1.size<=14) (k:PU D q=List.replicate 16 0):PU (putE D (q,x)) q=rowE x:=by
 have a:(bI x.1).length=x.1.size:=RN _;apply wV;intro i;rw[jc];have c:∀i,i<16->D[16*q+i]?=some 0:=λi b=>by have:=zQ (λl=>l[i]?) k;simp only[jc,ze b]at this;rw[this,vx,ze b]
 unfold rowE;by_cases b:i<16
 .rw[ze b,Wi h j];by_cases f:i=14
  .subst f;rw[ze rfl,zx (by simp[a];omega)];simp[a,show 14-(x.1.size+(14-x.1.size))=0 by omega]
  .rw[zb (by omega)];by_cases d:i<x.1.size
   .rw[ze ⟨by omega,by omega⟩,zR,zV (by rw[a];exact d)]
    congr 1
    omega
   .rw[zb (by omega),c i b];by_cases g:i<14
    .rw[zR,zx (by rw[a];omega),zV (by simp[a];omega),vx,ze (by rw[a];omega)]
    .rw[zx (by simp[a];omega)];have e:i=15:=(by omega);subst e;simp[a,show 15-(x.1.size+(14-x.1.size))=1 by omega]
 .rw[zb b,yW];simp[a];omega
theorem UD {n:Nat}:∀(P) (D),D.length=16*n->(∀p∈P,p.1<n/\p.2.1.size<=14)->(P.map (·.1)).Nodup->(∀p∈P,PU D p.1=List.replicate 16 0) ->
 (layF D P).length=16*n/\(∀p∈P,PU (layF D P) p.1=rowE p.2)/\(∀q,q∉P.map (·.1)->PU (layF D P) q=PU D q)
 | [],D,g,_,_,_=>⟨g,by simp,λq _=>rfl⟩
 | (q,x)::P,D,g,hP,hn,hz=>by
  rw[yB,vZ]at hn;have b:=hP (q,x) (by simp);have c:16*q+16<=D.length:=by have:=b.1;simp at this;omega
  have f:∀p∈P,p.1≠q:=λp a e=>hn.1 (yd.2 ⟨p,a,e⟩);obtain⟨i,j,h⟩:=UD P (putE D (q,x)) (by rw[Hu c b.2];exact g) (λp a=>hP p (by simp[a])) hn.2 (λp a=>by rw[NB c b.2 (f p a)];exact hz p (by simp[a]));refine⟨i,λp a=>?_,λm d=>?_⟩
  .rcases yZ.1 a with rfl|a
   .show PU (layF (putE D (q,x)) P) q=_;rw[h q hn.1];exact lU c b.2 (hz (q,x) (by simp))
   .exact j p a
  .rw[yB,yZ,not_or]at d;show PU (layF (putE D (q,x)) P) m=_;rw[h m d.2,NB c b.2 d.1]
def layS (S:List En):List Int:=layF (List.replicate (16*S.length) 0) ((ino S.length 0).zip S)
def rdN (D:List Int) (q:Nat):ByteArray:=⟨(Lib.trimRightB (tu ((D.drop (16*q)).take 14)).data.toList 0).toArray⟩
def rdE (D:List Int) (q:Nat):En:=(rdN D q,D.getD (16*q+14) 0)
theorem FY (h:q<n):PU (List.replicate (16*n) 0) q=List.replicate 16 0:=by
 unfold PU;rw[List.drop_replicate,List.take_replicate]
 congr 1
 omega
theorem UC {S:List En} (i:S.length<=32) (j:∀x∈S,x.1.size<=14):(layS S).length=16*S.length/\∀p∈(ino S.length 0).zip S,PU (layS S) p.1=rowE p.2:=by
 obtain⟨g,h,c⟩:=N7 i;have e:((ino S.length 0).zip S).map (·.1)=ino S.length 0:=by rw[List.map_fst_zip];omega
 obtain⟨d,f,_⟩:=UD (n:=S.length) ((ino S.length 0).zip S) (List.replicate (16*S.length) 0) (by simp) (λp b=>by have a:=(nH b);exact⟨c _ a.1,j _ a.2⟩) (by rw[e];exact g) (λp b=>FY (c _ (nH b).1));exact⟨d,f⟩
theorem Yi (ns):(tu ns).data.toList=ns.map λn=>UInt8.ofNat n.toNat:=by
 have b:∀(l:List Int) (r:ByteArray),(l.foldl (λr n=>r.push (UInt8.ofNat n.toNat)) r).data.toList=r.data.toList++l.map λn=>UInt8.ofNat n.toNat:=by
  intro l
  induction l with
  | nil=>intro r;simp
  | cons a l c=>intro r;rw[ww,c];simp[ByteArray.push]
 simpa[tu]using b ns ByteArray.empty
theorem LE (s):(bI s).map (λn=>UInt8.ofNat n.toNat)=s.data.toList:=by
 unfold bI;rw[vo]
 conv=>rhs;rw[<-List.map_id s.data.toList]
 refine uI λb _=>?_;simp
theorem YK (l) (k) (h:∀b∈l,b≠0):Lib.trimRightB (l++List.replicate k 0) 0=l:=by
 unfold Lib.trimRightB;rw[List.reverse_append,List.reverse_replicate,List.dropWhile_append_of_pos (λa c=>by rw[uX]at c;simp[c.2])];have:l.reverse.dropWhile (·==0)=l.reverse:=by
  cases d:l.reverse with
  | nil=>rfl
  | cons b r=>
   have e:b∈l:=(by rw[<-M3,d];simp);have:=h b e;rw[List.dropWhile_cons_of_neg (by simpa using this)]
 rw[this,List.reverse_reverse]
theorem kK {x:En} (h:okE x=true):tM x.1=true/\1<=x.2/\x.2<=32:=by unfold okE at h;simp only[yS,xe]at h;exact⟨h.1.1,h.1.2,h.2⟩
theorem Ro {s:ByteArray} (h:tM s=true):s.size<=14/\∀b∈s.data.toList,b≠0:=by unfold tM at h;simp only[yS,xe,um,List.contains_eq_mem,zz]at h;exact⟨h.1.1.1.1.2,λb a e=>h.1.2 (by rw[<-e];exact a)⟩
theorem Ji {x:En} (h:PU D q=rowE x) (k:okE x=true):rdE D q=x:=by
 obtain⟨d,g,j⟩:=kK k;obtain⟨i,e⟩:=Ro d;have a:(bI x.1).length=x.1.size:=RN _;have b:(D.drop (16*q)).take 14=bI x.1++List.replicate (14-x.1.size) 0:=by
  have:(D.drop (16*q)).take 14=(PU D q).take 14:=by unfold PU;rw[we];rfl
  rw[this,h];unfold rowE;rw[yC (by simp[a];omega),zo (by simp[a];omega)]
 have f:D.getD (16*q+14) 0=x.2:=by have:=zQ (λl=>l[14]?) h;simp only[jc]at this;rw[ze (by omega)]at this;rw[zt,this];unfold rowE;rw[zx (by simp[a];omega)];simp[a,show 14-(x.1.size+(14-x.1.size))=0 by omega]
 unfold rdE;rw[f];refine Prod.ext ?_ rfl;show rdN D q=x.1;unfold rdN;rw[Yi,b,yo,LE];have c:(List.replicate (14-x.1.size) (0:Int)).map (λn=>UInt8.ofNat n.toNat)=List.replicate (14-x.1.size) 0:=by simp
 rw[c,YK _ _ e]
theorem Hh {S:List En} (k:S.length<=32) (l:∀x∈S,okE x=true):(ino S.length 0).map (rdE (layS S))=S:=by
 obtain⟨h,d,j⟩:=N7 k;obtain⟨_,c⟩:=UC k (λx f=>(Ro (kK (l x f)).1).1);refine oL (by simp[d]) λi e a=>?_;rw[uv];have b:i<(ino S.length 0).length:=by simpa using e
 have g:((ino S.length 0)[i],S[i])∈(ino S.length 0).zip S:=by rw[Mq];exact⟨i,by rw[List.getElem?_zip_eq_some];simp[b,a]⟩
 exact Ji (c _ g) (l _ (Nj a))
theorem GB {S:List En} (b:S.length<=32) (c:∀x∈S,okE x=true):(layS S).length=16*S.length:=(UC b (λx a=>(Ro (kK (c x a)).1).1)).1
def leE (a b:En):Bool:= !lexB b.1 a.1
def O6 (l:List En):List En:=l.mergeSort leE
theorem oC (l):(O6 l).Perm l:=MF _ _
theorem KN (a b c) (e:leE a b=true) (f:leE b c=true):leE a c=true:=by
 unfold leE at *
 simp only[um]at *
 cases h:lexB c.1 a.1 with
 | false=>rfl
 | true=>
  cases d:lexB b.1 c.1 with
  | true=>rw[rA d h]at e;cases e
  | false=>rw[jd f d]at h;rw[e]at h;cases h
theorem LY (a b):(leE a b||leE b a)=true:=by
 unfold leE;cases h:lexB b.1 a.1 with
 | false=>rfl
 | true=>
  cases c:lexB a.1 b.1 with
  | false=>rfl
  | true=>have:=rA h c;rw[RD]at this;cases this
theorem jg {l:List En} (h:(l.map (·.1)).Nodup):sy (O6 l):=by have d:(O6 l).Pairwise λa b=>leE a b=true:=List.pairwise_mergeSort KN LY l;refine ik (d.imp λc=>by unfold leE at c;simpa using c) ?_;exact ((oC l).map (·.1)).nodup_iff.2 h
theorem X7 {l T:List En} (a:T.Perm l) (b:sy T):T=O6 l:=
 Pe (a.trans (oC l).symm) b (jg ((a.map (·.1)).nodup_iff.1 b.nodup))
theorem O5 (l):(O6 l).length=l.length:=(oC l).length_eq
theorem Vc {l m:List En} (a:l.Perm m) (h:(l.map (·.1)).Nodup):O6 l=O6 m:=X7 ((oC l).trans a) (jg h)
theorem OR {l:List En} (h:ud l=0):(O6 l).length<=32/\(∀x∈O6 l,okE x=true)/\sy (O6 l):=by have a:=(qO l).1 h;exact⟨by rw[O5];exact a.1,λx b=>a.2.1 x ((oC l).mem_iff.1 b),jg a.2.2⟩
def layD (l:List En):List Int:=layS (O6 l)
theorem PN {l:List En} (h:ud l=0):(layD l).length=16*l.length:=by obtain⟨a,b,_⟩:=OR h;unfold layD;rw[GB a b,O5]
theorem SU {l m:List En} (a:l.Perm m) (h:ud l=0):layD l=layD m:=by unfold layD;rw[Vc a ((qO l).1 h).2.2]
def outD (D:List Int):List En:=(ino (D.length / 16) 0).map (rdE D)
def oB (D:List Int):Bool:=decide (D.length%16=0)&&decide (D.length<=512)&&decide (ud (outD D)=0)&&decide (layD (outD D)=D)
theorem ND (D):oB D=true↔D.length%16=0/\D.length<=512/\ud (outD D)=0/\layD (outD D)=D:=by unfold oB;simp only[yS,xe];constructor<;>(intro h;simp[h])
theorem ZB {l:List En} (h:ud l=0):outD (layD l)=O6 l:=by obtain⟨a,b,_⟩:=OR h;unfold outD;rw[PN h,show 16*l.length / 16=l.length by omega,<-O5 l];exact Hh a b
theorem iZ {l:List En} (h:ud l=0):oB (layD l)=true:=by obtain⟨a,b,d⟩:=OR h;have c:=(qO l).1 h;rw[ND,ZB h,PN h];refine⟨by omega,by omega,(Ov (oC l)).2 h,?_⟩;exact SU (oC l) ((Ov (oC l)).2 h)
theorem su (h:oB D=true):sy (outD D)/\ud (outD D)=0/\(outD D).length=D.length / 16/\layD (outD D)=D:=by obtain⟨f,e,a,c⟩:=(ND D).1 h;have d:=(qO _).1 a;have b:=ZB a;rw[c]at b;refine⟨by rw[b];exact jg d.2.2,a,?_,c⟩;unfold outD;rw[yD,(N7 (by omega)).2.1]
structure FInv (D:List Int) (n:Nat) (name:ByteArray) (q k:Nat):Prop where
 seg:∃A B,ino n 0=A++ino n q++B/\(∀m∈A,lexB (rdE D m).1 name=true)/\(∀m∈B,lexB name (rdE D m).1=true)
 pow:2 ^ k<=q+1
 few:k=0\/2 ^ (k-1)<=n
theorem FInv.start (D) (n) (name):FInv D n name 0 0:=
 ⟨⟨[],[],by simp,by simp,by simp⟩,by simp,zu rfl⟩
section
variable {D : List Int} {n q k : Nat} {name : ByteArray}
theorem FInv.mid (h:FInv D n name q k) (d:q<n):∃A B,ino n 0=(A++ino n (2*q+1))++q::(ino n (2*q+2)++B)/\(∀m∈A,lexB (rdE D m).1 name=true)/\(∀m∈B,lexB name (rdE D m).1=true):=by obtain⟨A,B,b,a,c⟩:=h.seg;exact⟨A,B,by rw[b,i8 d];simp,a,c⟩
theorem FInv.left (h:FInv D n name q k) (i:q<n) (g:sy ((ino n 0).map (rdE D))) (f:lexB name (rdE D q).1=true):FInv D n name (2*q+1) (k+1):=by
 obtain⟨A,B,b,c,e⟩:=h.mid i;have d:=h.pow;refine⟨⟨A,q::(ino n (2*q+2)++B),by rw[b],c,λm a=>?_⟩,by rw[Nat.pow_succ];omega,zw (by simp;omega)⟩;rcases yZ.1 a with rfl|a
 .exact f
 .unfold sy at g;rw[b,yo,ME,yB,xY]at g;exact rA f (g.2.1.1 _ (yd.2 ⟨m,a,rfl⟩))
theorem FInv.right (h:FInv D n name q k) (i:q<n) (g:sy ((ino n 0).map (rdE D))) (f:lexB (rdE D q).1 name=true):FInv D n name (2*q+2) (k+1):=by
 obtain⟨A,B,b,e,c⟩:=h.mid i;have d:=h.pow;refine⟨⟨A++ino n (2*q+1)++[q],B,by rw[b];simp,λm a=>?_,c⟩,by rw[Nat.pow_succ];omega,zw (by simp;omega)⟩;rw[yN,xZ]at a;rcases a with a|rfl
 .unfold sy at g;rw[b,yo,ME]at g;exact rA (g.2.2 _ (yd.2 ⟨m,a,rfl⟩) _ (by simp)) f
 .exact f
theorem FInv.found (h:FInv D n name q k) (b:q<n) (c:name=(rdE D q).1):∃x∈(ino n 0).map (rdE D),x.1=name/\x.2=(rdE D q).2:=by obtain⟨A,B,a,_,_⟩:=h.mid b;exact⟨rdE D q,yd.2 ⟨q,by rw[a];simp,rfl⟩,c.symm,rfl⟩
theorem FInv.none (h:FInv D n name q k) (g:n<=q):∀x∈(ino n 0).map (rdE D),x.1≠name:=by
 obtain⟨A,B,d,c,e⟩:=h.seg;intro x f b;obtain⟨m,a,rfl⟩:=yd.1 f;rw[d,Vv g,yY,yN]at a;rcases a with a|a
 .have:=c m a;rw[b,RD]at this;cases this
 .have:=e m a;rw[b,RD]at this;cases this
end
