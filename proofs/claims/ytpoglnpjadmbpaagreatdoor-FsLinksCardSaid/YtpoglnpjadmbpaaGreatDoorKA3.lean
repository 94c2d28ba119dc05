/- Part of the proofs of FsLinks: the texts DkPlain, Grow, Facts. -/
import Derived.Test.YtpoglnpjadmbpaaGreatDoorKA2
import Derived.Laws.CopyOwn
import Derived.Lib.Hide
import Derived.BigQuiet
import Derived.Lib.QuietBelow
import Derived.Laws.Tables
set_option maxHeartbeats 16000000
set_option maxRecDepth 100000
namespace Go.Proofs.YtpoglnpjadmbpaaGreatDoor
open Go.RowKit
theorem ret_i {k:IntKind} {a b:Int} (h:a=b):Ending.returned (.int k a)=.returned (.int k b):=by rw[h]
structure qab (F : Nat -> Prop) (w w' : World) : Prop where
 os:w'.os=w.os
 tape:w'.tape=w.tape
 output:w'.output=w.output
 size:w.heap.size<=w'.heap.size
 block:∀ i,i<w.heap.size->¬ F i->w'.heap[i]? = w.heap[i]?
section
variable {F F1 : Nat -> Prop} {w w1 w2 w' : World}
theorem qab.refl (F:Nat->Prop) (w:World):qab F w w:=⟨rfl,rfl,rfl,Nat.le_refl _,fun _ _ _=>rfl⟩
theorem qab.of_below (h:Below w.heap.size w w'):qab F w w':=⟨h.os,h.tape,h.output,h.size,fun i hi _=>h.block i hi⟩
theorem qab.trans (h:qab F w w1) (k:qab F1 w1 w2) (hF:∀ i,F1 i->F i\/w.heap.size<=i):qab F w w2:=
 ⟨k.os.trans h.os,k.tape.trans h.tape,k.output.trans h.output,Nat.le_trans h.size k.size,fun i hi hn=>
  (k.block i (Nat.lt_of_lt_of_le hi h.size) (fun hc=>by
   rcases hF i hc with h1 | h1
   ·exact hn h1
   ·omega)).trans (h.block i hi hn)⟩
theorem qab.step (h:qab F w w1) (k:qab F w1 w2):qab F w w2:=h.trans k fun _ hi=>Or.inl hi
theorem qab.mono (h:qab F w w') (hF:∀ i,i<w.heap.size->F i->F1 i):qab F1 w w':=
 ⟨h.os,h.tape,h.output,h.size,fun i hi hn=>h.block i hi fun hc=>hn (hF i hi hc)⟩
theorem qab.setRow {g:Nat} (hg:F g) (cs:Array Value):qab F w (w.setRow g cs):=
 ⟨rfl,rfl,rfl,by simp,fun i _ hn=>setRow_other w g i cs (fun e=>hn (by rw[e];exact hg))⟩
theorem qab.setCell {p:Addr} (hg:F p.block) (u:Value):qab F w (w.setCell p u):=
 ⟨rfl,rfl,rfl,by simp[World.setCell],fun i _ hn=>Below.heap_setCell w p u i (fun e=>hn (by rw[e];exact hg))⟩
theorem qab.alloc (o:Obj):qab F w (w.alloc o):=qab.of_below ((Below.refl _ _).alloc (Nat.le_refl _) _)
theorem qab.drew (h:qab F w w'):qab F w w'.drew:=⟨h.os,h.tape,h.output,h.size,h.block⟩
theorem qab.grown {row:Option Nat} (h:w.grownBy w' row) (hr:∀ r,row=some r->F r):qab F w w':=
 ⟨h.os,h.tape,h.output,h.size,fun i hi hn=>h.block i hi (fun e=>hn (hr i e.symm))⟩
theorem qab.to_below {B:Nat} (h:qab F w w') (hF:∀ i,F i->B<=i) (hB:B<=w.heap.size):Below B w w':=
 ⟨h.os,h.tape,h.output,h.size,fun i hi=>h.block i (by omega) fun hc=>by have:=hF i hc;omega⟩
end
structure Dk where
 S:List Int
 N:List Int
 W:List (Nat × List Int)
 fu:Int
def qhk (E:List (Nat × Value)):List Value:=E.flatMap fun x=>[.int .i64 (x.1:Int),x.2]
theorem qmf (a b:List (Nat × Value)):qhk (a++b)=qhk a++qhk b:=by simp[qhk]
theorem que (l:List (Nat × Value)) (k:Nat) (hk:k<l.length):(qhk l)[k*2]? = some (.int .i64 (l[k].1:Int))/\(qhk l)[k*2+1]? = some l[k].2:=by
 induction l generalizing k with
 | nil=>simp at hk
 | cons x l ih=>
  cases k with
  | zero=>simp[qhk]
  | succ k=>
   have:=ih k (by simpa using hk)
   simp only[qhk,List.flatMap_cons,List.cons_append,List.nil_append]at this ⊢
   rw[show (k+1)*2=k*2+1+1 by omega,show k*2+1+1+1=(k*2+1)+1+1 by omega]
   simpa using this
def ybdz (w:World) (F:Nat->Prop) (gs gn:Nat) (v:Value) (D:List Int):Prop:=
 ∃ g cap cur,v=.slice (some ⟨g,0,none⟩) 64 cap/\D.length=64/\F g/\g ≠ gs/\g ≠ gn/\w.heap[g]? = some (.cells cur 5 (0,0))/\cur.toList.take 64=u8s D
structure Lies (w : World) (gd gs gn : Nat) (wt : Value) (E : List (Nat × Value)) (st : Dk) (L k : Nat) (F : Nat -> Prop) : Prop where
 fd:F gd
 fs:F gs
 fn:F gn
 ne:gs ≠ gn
 hd:w.heap[gd]? = some (.cells #[.slice (some ⟨gs,0,none⟩) L L,.slice (some ⟨gn,0,none⟩) L L,wt,.int .i64 st.fu] 128 (0,0))
 hs:w.heap[gs]? = some (.cells (u8s st.S).toArray 5 (0,0))
 hn:w.heap[gn]? = some (.cells (u8s st.N).toArray 5 (0,0))
 ls:st.S.length=L
 ln:st.N.length=L
 hL:L=64*k
 k0:16<=k
 k1:k<=256
 own:w.ownsRow 0 130 2 wt E.length (qhk E)
 fw:∀ b,wt.ownBlock=some b->F b
 len:E.length=st.W.length
 small:E.length<=1000000
 ent:∀ (i n:Nat) (v:Value),E[i]? = some (n,v)->n<k/\∃ D,st.W[i]? = some (n,D)/\ybdz w F gs gn v D
 fin:∀ i,F i->i<w.heap.size
 f0: -1<=st.fu
 f1:st.fu<=1000000
def qaw (w:World) (d:Value) (st:Dk) (k:Nat) (F:Nat->Prop):Prop:=
 ∃ gd gs gn wt E L,d=.pointer (some ⟨gd,0,none⟩)/\Lies w gd gs gn wt E st L k F
section
variable {w w' : World} {gd gs gn : Nat} {wt : Value} {E : List (Nat × Value)} {st : Dk} {L k : Nat} {F : Nat -> Prop}
theorem qam {g g':Nat} {c c':Array Value} {t t':TypeId} {f f':Nat × Nat} (h:w.heap[g]? = some (.cells c t f)) (h':w.heap[g']? = some (.cells c' t' f')) (hne:t ≠ t'):g ≠ g':=by
 rintro rfl
 rw[h]at h'
 injection h' with h'
 injection h' with _ ht _
 exact hne ht
theorem qds {base:Nat} {e t:TypeId} {size n:Nat} {v:Value} {xs:List Value} {g:Nat} {cs:Array Value} {fr:Nat × Nat} (h:w.ownsRow base e size v n xs) (hg:w.heap[g]? = some (.cells cs t fr)) (hne:e ≠ t):v.ownBlock ≠ some g:=by
 rcases h.2 with⟨rfl,_⟩ | ⟨g',cap,cur,rfl,_,hh,_⟩
 ·simp[Value.ownBlock]
 ·intro he
  have:g'=g:=by simpa[Value.ownBlock]using he
  subst this
  exact qam hh hg hne rfl
theorem qci {base:Nat} {e:TypeId} {size n:Nat} {v:Value} {xs:List Value} (h:w.ownsRow base e size v n xs) (hk:∀ b,v.ownBlock=some b->w'.heap[b]? = w.heap[b]?):w'.ownsRow base e size v n xs:=by
 obtain⟨h1,h2⟩:=h
 refine⟨h1,?_⟩
 rcases h2 with h2 | ⟨g,cap,cur,rfl,hg,hh,r⟩
 ·exact Or.inl h2
 ·exact Or.inr ⟨g,cap,cur,rfl,hg,(hk g rfl).trans hh,r⟩
theorem ybdz.keep {v:Value} {D:List Int} {F':Nat->Prop} (h:ybdz w F gs gn v D) (hk:∀ i c,F i->i ≠ gs->i ≠ gn->w.heap[i]? = some (.cells c 5 (0,0))->w'.heap[i]? = w.heap[i]?) (hF:∀ i,F i->F' i):ybdz w' F' gs gn v D:=by
 obtain⟨g,cap,cur,rfl,h1,h2,h3,h4,h5,h6⟩:=h
 exact⟨g,cap,cur,rfl,h1,hF _ h2,h3,h4,(hk g cur h2 h3 h4 h5).trans h5,h6⟩
theorem Lies.ne_d (h:Lies w gd gs gn wt E st L k F):gd ≠ gs/\gd ≠ gn/\wt.ownBlock ≠ some gd/\wt.ownBlock ≠ some gs/\wt.ownBlock ≠ some gn:=
 ⟨qam h.hd h.hs (by decide),qam h.hd h.hn (by decide),qds h.own h.hd (by decide),qds h.own h.hs (by decide),qds h.own h.hn (by decide)⟩
theorem Lies.keep (h:Lies w gd gs gn wt E st L k F) (hk:∀ i,F i->w'.heap[i]? = w.heap[i]?) (hz:w.heap.size<=w'.heap.size):Lies w' gd gs gn wt E st L k F:=
 { h with
  hd:=(hk _ h.fd).trans h.hd
  hs:=(hk _ h.fs).trans h.hs
  hn:=(hk _ h.fn).trans h.hn
  own:=qci h.own fun b hb=>hk b (h.fw b hb)
  ent:=fun i n v hi=>by
   obtain⟨h1,D,h2,h3⟩:=h.ent i n v hi
   exact⟨h1,D,h2,h3.keep (fun i _ hi _ _ _=>hk i hi) fun _ hi=>hi⟩
  fin:=fun i hi=>Nat.lt_of_lt_of_le (h.fin i hi) hz }
theorem qaw.keep {d:Value} (h:qaw w d st k F) {G:Nat->Prop} (hk:qab G w w') (hG:∀ i,F i->¬ G i):qaw w' d st k F:=by
 obtain⟨gd,gs,gn,wt,E,L,rfl,h⟩:=h
 exact⟨gd,gs,gn,wt,E,L,rfl,h.keep (fun i hi=>hk.block i (h.fin i hi) (hG i hi)) hk.size⟩
theorem qaw.below {d:Value} (h:qaw w d st k F) (hb:Below w.heap.size w w'):qaw w' d st k F:=
 h.keep (G:=fun _=>False) (qab.of_below hb) (fun _ _ h=>h)
theorem qaw.fin {d:Value} (h:qaw w d st k F):∀ i,F i->i<w.heap.size:=by
 obtain⟨gd,gs,gn,wt,E,L,rfl,h⟩:=h
 exact h.fin
theorem qbu {g i:Nat} {c:Array Value} {t:TypeId} {fr:Nat × Nat} (h:w.heap[g]? = some (.cells c t fr)) (u:Value):(w.setCell ⟨g,i,none⟩ u).heap[g]? = some (.cells (c.setIfInBounds i u) t fr):=by
 simp[World.setCell,Array.getElem?_modify,h]
theorem Lies.setFu (h:Lies w gd gs gn wt E st L k F) (f:Int) (h0: -1<=f) (h1:f<=1000000):Lies (w.setCell ⟨gd,3,none⟩ (.int .i64 f)) gd gs gn wt E { st with fu:=f } L k F:=by
 obtain⟨n1,n2,n3,n4,n5⟩:=h.ne_d
 have other:∀ i,i ≠ gd->(w.setCell ⟨gd,3,none⟩ (.int .i64 f)).heap[i]? = w.heap[i]? :=fun i hi=>Below.heap_setCell w _ _ i hi
 exact { h with
  hd:=by have:=qbu (i:=3) h.hd (.int .i64 f);simpa using this
  hs:=(other _ (Ne.symm n1)).trans h.hs
  hn:=(other _ (Ne.symm n2)).trans h.hn
  own:=qci h.own fun b hb=>other b (fun e=>n3 (by rw[hb,e]))
  ent:=fun i n v hi=>by
   obtain⟨h1,D,h2,h3⟩:=h.ent i n v hi
   exact⟨h1,D,h2,h3.keep (fun i c hi _ _ hc=>other i (qam hc h.hd (by decide))) fun _ hi=>hi⟩
  fin:=fun i hi=>by simpa[World.setCell]using h.fin i hi
  f0:=h0
  f1:=h1 }
end
def Did (d:Value) (st:Dk) (k:Nat) (F:Nat->Prop) (w w':World):Prop:=
 ∃ F',qaw w' d st k F'/\(∀ i,F' i->F i\/w.heap.size<=i)/\qab F w w'
theorem Did.trans {d:Value} {st:Dk} {k:Nat} {F F1:Nat->Prop} {w w1 w2:World} (h1:qab F w w1) (h2:∀ i,F1 i->F i\/w.heap.size<=i) (h:Did d st k F1 w1 w2):Did d st k F w w2:=by
 obtain⟨F',h3,h4,h5⟩:=h
 refine⟨F',h3,fun i hi=>?_,h1.trans h5 h2⟩
 rcases h4 i hi with h | h
 ·exact h2 i h
 ·exact Or.inr (Nat.le_trans h1.size h)
def sec (l:List Int) (n:Nat):List Int:=(l.drop (64*n)).take 64
def putS (l:List Int) (n:Nat) (D:List Int):List Int:=l.take (64*n)++(D++l.drop (64*n+64))
theorem qhu {l:List Int} {n k:Nat} (hl:l.length=64*k) (hn:n<k):(sec l n).length=64:=by
 unfold sec;rw[List.length_take,List.length_drop];omega
theorem qgk {l:List Int} {n k:Nat} {D:List Int} (hl:l.length=64*k) (hn:n<k) (hD:D.length=64):(putS l n D).length=64*k:=by
 unfold putS;rw[List.length_append,List.length_append,List.length_take,List.length_drop];omega
theorem qfw {l:List Int} {n k:Nat} {D:List Int} (hl:l.length=64*k) (hn:n<k) (hD:D.length=64):sec (putS l n D) n=D:=by
 unfold sec putS
 have e:(l.take (64*n)).length=64*n:=by rw[List.length_take];omega
 rw[List.drop_append_of_le_length (by omega),List.drop_of_length_le (by omega),List.nil_append,List.take_append_of_le_length (by omega),List.take_of_length_le (by omega)]
theorem qfa {l:List Int} {n m k:Nat} {D:List Int} (hl:l.length=64*k) (hn:n<k) (_hm:m<k) (hD:D.length=64) (h:m ≠ n):sec (putS l n D) m=sec l m:=by
 have e:(l.take (64*n)).length=64*n:=by rw[List.length_take];omega
 apply List.ext_getElem?
 intro j
 unfold sec putS
 rw[List.getElem?_take,List.getElem?_take]
 by_cases hj:j<64
 ·rw[if_pos hj,if_pos hj,List.getElem?_drop,List.getElem?_drop]
  by_cases hlt:m<n
  ·rw[List.getElem?_append_left (by omega),List.getElem?_take,if_pos (by omega)]
  ·rw[List.getElem?_append_right (by omega),List.getElem?_append_right (by omega),List.getElem?_drop]
   congr 1
   omega
 ·rw[if_neg hj,if_neg hj]
theorem ybzp {a b:List Int} {k:Nat} (ha:a.length=64*k) (hb:b.length=64*k) (h:∀ n,n<k->sec a n=sec b n):a=b:=by
 apply List.ext_getElem?
 intro j
 by_cases hj:j<64*k
 ·have:=congrArg (fun l=>l[j % 64]?) (h (j / 64) (by omega))
  simp only[sec,List.getElem?_take,List.getElem?_drop]at this
  rw[if_pos (by omega),if_pos (by omega),show 64*(j / 64)+j % 64=j by omega]at this
  exact this
 ·rw[List.getElem?_eq_none (by omega),List.getElem?_eq_none (by omega)]
section
variable {P : Program} {o : Oper} {a : Act} {w : World} {K : Act -> World -> Prop} {Q : Exit -> Act -> World -> Prop}
theorem ybpi {ops:Array Oper} {X:Prop} (hgd:o.guard=none) (f:FuncId) (xs:Array Operand) (ats:Array TypeId) (ho:o.op=.call { callee:=.value (.func f),args:=xs,argTypes:=ats })
  (hf:∀ args w,(callFunc f args).run P w=.ok (.enter f args) w) (args:Array Value) (hargs:#[]++xs.map a.eval++#[]=args) (R:Value->World->Prop)
  (hc:Calls P f args w fun e w'=>∃ v,e=.returned v/\R v w') (h:∀ v w',R v w'->K (a.put o.dst v) w'):if Region.wanted o (yielded ops a.tmps)=true then Oper.wp P o a w K Q else X:=by
 rw[if_pos (by simp[Region.wanted,hgd])]
 have e:execOp a.eval o=callFunc f (#[]++xs.map a.eval++#[]):=by
  obtain⟨dst,op,ty,pos,after,guard⟩:=o
  simp only at ho
  subst ho
  rfl
 unfold Oper.wp
 rw[e,hargs,hf]
 exact hc.mono fun e w' ⟨v,he,hr⟩=>by subst he;exact h v w' hr
def over (l:List Int) (off:Nat) (D:List Int):List Int:=l.take off++(D++l.drop (off+D.length))
theorem qxj (d s:Operand) (dT sT:TypeId) (ho:o.op=.call { callee:=.builtin .copy,args:=#[d,s],argTypes:=#[dT,sT] }) (elem:TypeId) (hu:P.underlying dT=some (.slice elem)) (hsz:(P.info? elem).map (·.size)=some 1)
  (g off dLen dCap:Nat) (sv:Value) (hd:a.eval d=.slice (some ⟨g,off,none⟩) dLen dCap) (hs:a.eval s=sv) (cur D:List Int) (t:TypeId) (hg:w.heap[g]? = some (.cells (u8s cur).toArray t (0,0)))
  (hb:qaf w sv D) (h0:0<D.length) (hle:D.length<=dLen) (hfit:off+D.length<=cur.length)
  (h:K (a.put o.dst (goInt D.length)) (w.setRow g (u8s (over cur off D)).toArray)):o.wp P a w K Q:=by
 obtain⟨hl,⟨hn,_⟩ | ⟨g',o',c,rfl,hc⟩⟩:=hb
 ·omega
 have hrun:=run_copy_row (P:=P) w dT sT o.type elem g off dLen dCap ⟨g',o',none⟩ D.length c (u8s cur).toArray t (u8s D) hu hsz hg (by rw[qal];exact (Nat.min_eq_left hle).symm) (fun j v hv=>by
  have hadd:(⟨g',o',none⟩:Addr).add j=⟨g',o'+j,none⟩:=by unfold Addr.add;split <;> simp_all
  rw[hadd];exact hc j v hv) (by simp[qal];omega) (qga D)
 have e:((u8s cur).toArray.toList.take off++u8s D++(u8s cur).toArray.toList.drop (off+(u8s D).length)).toArray=(u8s (over cur off D)).toArray:=by
  unfold over
  rw[qbj,qbj,qdf,qdq,qal,List.append_assoc]
 rw[e,qal]at hrun
 unfold Oper.wp
 simp[execOp,ho,resolve,invoke,builtin,hd,hs,hrun,Result.andThen]
 exact h
theorem qsx {ops:Array Oper} {X:Prop} (hgd:o.guard=none) (d s:Operand) (dT sT:TypeId) (ho:o.op=.call { callee:=.builtin .copy,args:=#[d,s],argTypes:=#[dT,sT] }) (elem:TypeId) (hu:P.underlying dT=some (.slice elem)) (hsz:(P.info? elem).map (·.size)=some 1)
  (g off dLen dCap:Nat) (sv:Value) (hd:a.eval d=.slice (some ⟨g,off,none⟩) dLen dCap) (hs:a.eval s=sv) (cur D:List Int) (t:TypeId) (hg:w.heap[g]? = some (.cells (u8s cur).toArray t (0,0)))
  (hb:qaf w sv D) (h0:0<D.length) (hle:D.length<=dLen) (hfit:off+D.length<=cur.length)
  (h:K (a.put o.dst (goInt D.length)) (w.setRow g (u8s (over cur off D)).toArray)):if Region.wanted o (yielded ops a.tmps)=true then Oper.wp P o a w K Q else X:=by
 rw[if_pos (by simp[Region.wanted,hgd])]
 exact qxj d s dT sT ho elem hu hsz g off dLen dCap sv hd hs cur D t hg hb h0 hle hfit h
def bI (s:ByteArray):List Int:=s.data.toList.map fun b=>(b.toNat:Int)
theorem qtx (s:ByteArray):(bI s).length=s.size:=by simp[bI]
theorem qzy (w:World) (dT sT ty elem:TypeId) (hu:P.underlying dT=some (.slice elem)) (hsz:(P.info? elem).map (·.size)=some 1)
  (g dLen dCap:Nat) (sv:ByteArray) (cur:List Int) (t:TypeId) (hg:w.heap[g]? = some (.cells (u8s cur).toArray t (0,0))) (hfit:cur.length=dLen):
  (Builtin.copy_ #[dT,sT] ty #[.slice (some ⟨g,0,none⟩) dLen dCap,.string sv]).run P w=.ok (goInt (Nat.min sv.size dLen)) (w.setRow g (u8s (over cur 0 ((bI sv).take dLen))).toArray):=by
 obtain⟨D,hD⟩:∃ D,D=(bI sv).take dLen:=⟨_,rfl⟩
 have hDl:D.length<=dLen:=by rw[hD,List.length_take];omega
 rw[<-hD]
 have hst:=run_storeCells_at P g 0 t (u8s D) 0 (u8s cur).toArray w hg (by simp[qal];omega) (qga _)
 have e:((u8s cur).toArray.toList.take (0+0)++u8s D++(u8s cur).toArray.toList.drop (0+0+(u8s D).length)).toArray=(u8s (over cur 0 D)).toArray:=by
  unfold over
  rw[qbj,qbj,qdf,qdq,qal,List.append_assoc]
 rw[e]at hst
 have htk:((sv.data.toList.map fun b:UInt8=>Value.int IntKind.u8 (b.toNat:Int)).take (Nat.min sv.size dLen))=u8s D:=by
  rw[hD,qdf,show u8s (bI sv)=sv.data.toList.map fun b:UInt8=>Value.int IntKind.u8 (b.toNat:Int) by simp[u8s,bI]]
  rw[List.take_eq_take_iff]
  have:(sv.data.toList.map fun b:UInt8=>Value.int IntKind.u8 (b.toNat:Int)).length=sv.size:=by rw[List.length_map];rfl
  rw[this]
  show min (min sv.size dLen) sv.size=min dLen sv.size
  omega
 cases hq:P.info? elem with
 | none=>simp[hq]at hsz
 | some i=>
  have hi:i.size=1:=by simpa[hq]using hsz
  simp[Builtin.copy_,run_underlying hu,Builtin.lenOf,Builtin.firstCells,sizeOf,typeInfo,hq]
  rw[htk,hst]
  simp[Result.andThen]
theorem qfp (w:World) (dT sT ty elem:TypeId) (hu:P.underlying dT=some (.slice elem)) (hsz:(P.info? elem).map (·.size)=some 1)
  (g off dLen dCap:Nat) (sv:Value) (cur D:List Int) (t:TypeId) (hg:w.heap[g]? = some (.cells (u8s cur).toArray t (0,0)))
  (hb:qaf w sv D) (h0:0<D.length) (hle:D.length<=dLen) (hfit:off+D.length<=cur.length):
  (Builtin.copy_ #[dT,sT] ty #[.slice (some ⟨g,off,none⟩) dLen dCap,sv]).run P w=.ok (goInt D.length) (w.setRow g (u8s (over cur off D)).toArray):=by
 obtain⟨hl,⟨hn,_⟩ | ⟨g',o',c,rfl,hc⟩⟩:=hb
 ·omega
 have hrun:=run_copy_row (P:=P) w dT sT ty elem g off dLen dCap ⟨g',o',none⟩ D.length c (u8s cur).toArray t (u8s D) hu hsz hg (by rw[qal];exact (Nat.min_eq_left hle).symm) (fun j v hv=>by
  have hadd:(⟨g',o',none⟩:Addr).add j=⟨g',o'+j,none⟩:=by unfold Addr.add;split <;> simp_all
  rw[hadd];exact hc j v hv) (by simp[qal];omega) (qga D)
 have e:((u8s cur).toArray.toList.take off++u8s D++(u8s cur).toArray.toList.drop (off+(u8s D).length)).toArray=(u8s (over cur off D)).toArray:=by
  unfold over
  rw[qbj,qbj,qdf,qdq,qal,List.append_assoc]
 rw[e,qal]at hrun
 exact hrun
end
theorem qcd {w w':World} (h:∃ p:Regrown,w'=Sort.grow (redrawn w p.d) p.os):Below w.heap.size w w':=by
 obtain⟨p,rfl⟩:=h
 exact below_regrown w p.d p.os
theorem qkk {w w':World} (h:∃ p:Regrown,w'=Sort.grow (redrawn w p.d) p.os) {i:Nat} {o:Obj} (hi:w.heap[i]? = some o):w'.heap[i]? = some o:=qaa (qcd h) hi
theorem qff {w w' w'':World} (h:∃ p:Regrown,w'=Sort.grow (redrawn w p.d) p.os) (hb:Below w'.heap.size w' w''):∃ p:Regrown,w''=Sort.grow (redrawn w p.d) p.os:=
 regrown_of_below (Below.step (qcd h) hb)
section
variable {P : Program}
theorem qts {o:Oper} {a:Act} {C:World->Prop} {K:Act->Prop} (ty:TypeId) (x:Operand) (ho:o.op=.load ty x)
  (g:Nat) (hx:a.eval x=.pointer (some ⟨g,0,none⟩)) (t:TypeId) (cs:Array Value) (fr:Nat × Nat) (d:TypeDesc) (hg:∀ w,C w->w.heap[g]? = some (.cells cs t fr))
  (hu:P.underlying ty=some d) (hd:(match d with | .struct _ | .array _ _=>true | _=>false)=true) (hi:(P.info? ty).map (·.size)=some cs.size)
  (h:K (a.put o.dst (.agg cs))):o.quiet P a C K:=
 ⟨.agg cs,fun w hw=>by
  unfold Oper.quietAt execOp
  simp only[ho,hx,Instr.loadAt,Instr.sureAddr,Sem.run_bind,Sem.run_pure,Result.andThen_ok,run_loadVar_row w g t ty cs fr d (hg w hw) hu hd hi]
  exact⟨rfl,rfl⟩,h⟩
theorem qji {ops:Array Oper} {Q:Act->Prop} {rest:List Oper} {o:Oper} {a:Act} {C:World->Prop} (hw:Region.wanted o (yielded ops a.tmps)=true) (ty:TypeId) (x:Operand) (ho:o.op=.load ty x)
  (g:Nat) (hx:a.eval x=.pointer (some ⟨g,0,none⟩)) (t:TypeId) (cs:Array Value) (fr:Nat × Nat) (d:TypeDesc) (hg:∀ w,C w->w.heap[g]? = some (.cells cs t fr))
  (hu:P.underlying ty=some d) (hd:(match d with | .struct _ | .array _ _=>true | _=>false)=true) (hi:(P.info? ty).map (·.size)=some cs.size)
  (h:wpQuiet P ops C Q rest (a.put o.dst (.agg cs))):wpQuiet P ops C Q (o :: rest) a:=
 BigFrame.wpQuiet_want hw fun _ hK=>qts ty x ho g hx t cs fr d hg hu hd hi (hK _ h)
theorem qeo {ops:Array Oper} {Q:Act->Prop} {rest:List Oper} {o:Oper} {a:Act} {C:World->Prop} (f:FuncId) (xs:Array Operand) (ats:Array TypeId) (ho:o.op=.call { callee:=.value (.func f),args:=xs,argTypes:=ats })
  (hw:Region.wanted o (yielded ops a.tmps)=true) (hf:∀ args w,(callFunc f args).run P w=.ok (.enter f args) w) (args:Array Value) (hargs:#[]++xs.map a.eval++#[]=args) (v:Value)
  (hC:∀ w' w'',C w'->Below w'.heap.size w' w''->C w'') (hc:∀ w',C w'->Calls P f args w' fun e w''=>e=.returned v/\Below w'.heap.size w' w'') (h:wpQuiet P ops C Q rest (a.put o.dst v)):wpQuiet P ops C Q (o :: rest) a:=
 BigFrame.wpQuiet_want hw fun _ hK=>⟨v,fun w' hw'=>by
  have e:execOp a.eval o=callFunc f (#[]++xs.map a.eval++#[]):=by
   obtain⟨dst,op,ty,pos,after,guard⟩:=o
   simp only at ho
   subst ho
   rfl
  unfold Oper.quietAt
  rw[e,hargs,hf]
  exact⟨rfl,(hc w' hw').mono fun _ _ ⟨he,hb⟩=>⟨he,hC _ _ hw' hb⟩⟩,hK _ h⟩
end
section
variable {P : Program} {l : List Oper}
structure FI (St : World -> World -> Prop) (m : Nat) (sl : Nat -> Nat) (F : Nat -> Value -> World -> Prop) (pr : Nat -> Nat -> Prop) (old : Nat -> Value -> Prop) (w0 : World) (D : Nat -> Bool) (a : Act) (u : World) : Prop where
 b:St w0 u
 size:a.tmps.size=m
 dfs:a.defers=[]
 old:∀ k v,old k v->a.tmps.getD k undef=v
 fact:∀ i,D i=true->F i (a.tmps.getD (sl i) undef) u
 ne:∀ i j,pr i j->D i=true->D j=true->a.tmps.getD (sl i) undef ≠ a.tmps.getD (sl j) undef
theorem qti {Q:Exit->Act->World->Prop} {id:Nat} {a:Act} {w:World} (hm:P.follows .mixedOrders=true) (hr:qsq l=true) (St:World->World->Prop) (hS0:St w w.drew) (hS2:∀ u u',St w u->St u u'->St w u') (m:Nat) (sl:Nat->Nat) (F:Nat->Value->World->Prop) (pr:Nat->Nat->Prop) (old:Nat->Value->Prop)
  (hst:∀ j v u u',St u u'->F j v u->F j v u') (hsym:∀ i j,pr i j->pr j i/\i ≠ j) (hinj:∀ i j,i ≠ j->sl i ≠ sl j) (hold:∀ i k v,old k v->k ≠ sl i)
  (hsl:(l.zipIdx.all fun p=>p.1.guard.isNone && p.1.dst == some (sl p.2) && decide (sl p.2<m))=true)
  (h0:a.tmps.size=m/\a.defers=[]/\∀ k v,old k v->a.tmps.getD k undef=v)
  (hstep:∀ D a u,FI St m sl F pr old w D a u->∀ i o,l[i]? = some o->D i=false->(∀ e ∈ o.after,Region.binds .any e=true->D e.on=true) ->
   o.wp P a u (fun a' u'=>∃ v,a'=a.put o.dst v/\St u u'/\F i v u'/\∀ j,pr i j->D j=true->v ≠ a.tmps.getD (sl j) undef) Q)
  (hend:∀ D a u,FI St m sl F pr old w D a u->(∀ i,i<l.length->D i=true)->Q .normal a u):(Code.region id l.toArray true).wp P Q a w:=by
 refine qje hm hr (FI St m sl F pr old w) ?_ ?_ hend
 ·exact⟨hS0,h0.1,h0.2.1,h0.2.2,fun i hi=>by simp at hi,fun i j _ hi=>by simp at hi⟩
 ·intro D a u h i o ho hD ha
  have hil:i<l.length:=(List.getElem?_eq_some_iff.1 ho).1
  have hoi:l[i]=o:=(List.getElem?_eq_some_iff.1 ho).2
  have hP:=List.all_eq_true.1 hsl (o,i) (by rw[List.mem_zipIdx_iff_getElem?];exact ho)
  simp only[Bool.and_eq_true,Option.isNone_iff_eq_none,beq_iff_eq,decide_eq_true_eq]at hP
  obtain⟨⟨hg,hd⟩,hlt⟩:=hP
  refine qkr hg (Oper.wp_mono ?_ (hstep D a u h i o ho hD ha))
  rintro a' u' ⟨v,rfl,hb,hF,hne⟩
  rw[hd]
  have hlt2:sl i<a.tmps.size:=by rw[h.size];exact hlt
  have hsame:(a.put (some (sl i)) v).tmps.getD (sl i) undef=v:=by
   show (a.tmps.setIfInBounds (sl i) v).getD (sl i) undef=v
   simp[Array.getD_eq_getD_getElem?,hlt2]
  have hoth:∀ k,k ≠ sl i->(a.put (some (sl i)) v).tmps.getD k undef=a.tmps.getD k undef:=fun k hk=>by
   show (a.tmps.setIfInBounds (sl i) v).getD k undef=_
   simp only[Array.getD_eq_getD_getElem?,Array.getElem?_setIfInBounds,if_neg (Ne.symm hk)]
  have hDj:∀ j,upd D i j=true->j ≠ i->D j=true:=fun j hj hn=>qzh hj hn
  refine⟨hS2 _ _ h.b hb,?_,h.dfs,fun k v hk=>?_,fun j hj=>?_,fun j k hjk hj hk=>?_⟩
  ·show (a.tmps.setIfInBounds (sl i) v).size=m
   rw[Array.size_setIfInBounds];exact h.size
  ·rw[hoth k (hold i k v hk)];exact h.old k v hk
  ·by_cases hji:j=i
   ·subst hji;rw[hsame];exact hF
   ·rw[hoth _ (hinj j i hji)];exact hst _ _ _ _ hb (h.fact j (hDj j hj hji))
  ·by_cases hji:j=i
   ·subst hji
    have hkj:=Ne.symm (hsym j k hjk).2
    rw[hsame,hoth _ (hinj k j hkj)]
    exact hne k hjk (hDj k hk hkj)
   ·by_cases hki:k=i
    ·subst hki
     rw[hsame,hoth _ (hinj j k hji)]
     exact Ne.symm (hne j (hsym j k hjk).1 (hDj j hj hji))
    ·rw[hoth _ (hinj j i hji),hoth _ (hinj k i hki)]
     exact h.ne j k hjk (hDj j hj hji) (hDj k hk hki)
def ybrn (l:List Oper) (j k:Nat):Bool:=match l[j]? with | some o=>o.after.any fun e=>Region.binds .any e && (e.on == k) | none=>false
def ybfx (l:List Oper) (n:Nat):List Nat:=(List.range n).reverse.foldl (fun R k=>if R.any (fun j=>ybrn l j k) then k :: R else R) [n]
def ybyi (l:List Oper) (n:Nat):Bool:=(l.length == n+1) && (match l[n]? with | some o=>o.guard.isNone | none=>false) && ((List.range n).all fun i=>(ybfx l n).contains i)
theorem ybjb {l:List Oper} {D:Nat->Bool} {n:Nat} {o:Oper} (ho:l[n]? = some o) (hn:∀ e ∈ o.after,Region.binds .any e=true->D e.on=true) (hcl:∀ k o,l[k]? = some o->D k=true->∀ e ∈ o.after,Region.binds .any e=true->D e.on=true):∀ k ∈ ybfx l n,k ≠ n->D k=true:=by
 unfold ybfx
 have gen:∀ (ks:List Nat) (R:List Nat),(∀ k ∈ R,k ≠ n->D k=true)->∀ k ∈ ks.foldl (fun R k=>if R.any (fun j=>ybrn l j k) then k :: R else R) R,k ≠ n->D k=true:=by
  intro ks
  induction ks with
  | nil=>intro R h;exact h
  | cons c ks ih=>
   intro R h
   rw[List.foldl_cons]
   refine ih _ fun k hk hkn=>?_
   by_cases hc:R.any (fun j=>ybrn l j c)=true
   ·rw[if_pos hc]at hk
    rcases List.mem_cons.1 hk with rfl | hk
    ·obtain⟨j,hj,he⟩:=List.any_eq_true.1 hc
     unfold ybrn at he
     cases hlj:l[j]? with
     | none=>rw[hlj]at he;cases he
     | some oj=>
      rw[hlj]at he
      obtain⟨q,hq,hq2⟩:=Array.any_eq_true.1 he
      simp only[Bool.and_eq_true,beq_iff_eq]at hq2
      rw[<-hq2.2]
      by_cases hjn:j=n
      ·subst hjn
       rw[ho]at hlj
       injection hlj with hlj
       subst hlj
       exact hn _ (Array.getElem_mem hq) hq2.1
      ·exact hcl j oj hlj (h j hj hjn) _ (Array.getElem_mem hq) hq2.1
    ·exact h k hk hkn
   ·rw[if_neg hc]at hk
    exact h k hk hkn
 exact gen _ [n] (fun k hk hkn=>by simp at hk;exact absurd hk hkn)
theorem qld {Q:Exit->Act->World->Prop} {id:Nat} {a:Act} {w:World} (hm:P.follows .mixedOrders=true) (hr:qsq l=true) (St:World->World->Prop) (hS0:St w w.drew) (hS2:∀ u u',St w u->St u u'->St w u') (m:Nat) (sl:Nat->Nat) (F:Nat->Value->World->Prop) (pr:Nat->Nat->Prop) (old:Nat->Value->Prop)
  (hst:∀ j v u u',St u u'->F j v u->F j v u') (hsym:∀ i j,pr i j->pr j i/\i ≠ j) (hinj:∀ i j,i ≠ j->sl i ≠ sl j) (hold:∀ i k v,old k v->k ≠ sl i)
  (n:Nat) (hlast:ybyi l n=true)
  (hsl:((l.take n).zipIdx.all fun p=>p.1.guard.isNone && p.1.dst == some (sl p.2) && decide (sl p.2<m))=true)
  (h0:a.tmps.size=m/\a.defers=[]/\∀ k v,old k v->a.tmps.getD k undef=v)
  (hstep:∀ D a u,FI St m sl F pr old w D a u->∀ i o,i<n->l[i]? = some o->D i=false->(∀ e ∈ o.after,Region.binds .any e=true->D e.on=true) ->
   o.wp P a u (fun a' u'=>∃ v,a'=a.put o.dst v/\St u u'/\F i v u'/\∀ j,pr i j->D j=true->v ≠ a.tmps.getD (sl j) undef) Q)
  (hend:∀ D a u,FI St m sl F pr old w D a u->(∀ i,i<n->D i=true)->∀ o,l[n]? = some o->o.wp P a u (fun a' u'=>Q .normal a' u') Q):(Code.region id l.toArray true).wp P Q a w:=by
 unfold ybyi at hlast
 simp only[Bool.and_eq_true,beq_iff_eq]at hlast
 obtain⟨⟨hlen,hlast⟩,hreach⟩:=hlast
 obtain⟨oz,hoz⟩:∃ o,l[n]? = some o:=⟨l[n]'(by omega),List.getElem?_eq_getElem (by omega)⟩
 rw[hoz]at hlast
 have hgz:oz.guard=none:=by simpa using hlast
 have hall:∀ i,i<n->i ∈ ybfx l n:=fun i hi=>by
  have:=List.all_eq_true.1 hreach i (List.mem_range.2 hi)
  simpa using this
 refine qje hm hr (fun D a u=>(∀ k o,l[k]? = some o->D k=true->∀ e ∈ o.after,Region.binds .any e=true->D e.on=true)/\((D n=false/\FI St m sl F pr old w D a u)\/(D n=true/\(∀ i,i<n->D i=true)/\Q .normal a u))) ?_ ?_ ?_
 ·exact⟨fun k o _ hk=>by simp at hk,Or.inl ⟨rfl,hS0,h0.1,h0.2.1,h0.2.2,fun i hi=>by simp at hi,fun i j _ hi=>by simp at hi⟩⟩
 ·intro D a u hI i o ho hD ha
  obtain⟨hcl,hI⟩:=hI
  have hcl2:∀ k o,l[k]? = some o->upd D i k=true->∀ e ∈ o.after,Region.binds .any e=true->upd D i e.on=true:=fun k ok hk hDk e he hb=>by
   have hup:∀ r,D r=true->upd D i r=true:=fun r hr=>by simp[upd,hr]
   by_cases hki:k=i
   ·subst hki
    rw[ho]at hk
    injection hk with hk
    subst hk
    exact hup _ (ha e he hb)
   ·exact hup _ (hcl k ok hk (qzh hDk hki) e he hb)
  have hil:i<l.length:=(List.getElem?_eq_some_iff.1 ho).1
  rcases hI with⟨hDn,h⟩ | ⟨hDn,hD2,_⟩
  ·by_cases hin:i=n
   ·subst hin
    rw[hoz]at ho
    injection ho with ho
    subst ho
    have hDall:∀ j,j<i->D j=true:=fun j hj=>ybjb hoz ha hcl j (hall j hj) (by omega)
    refine qkr hgz (Oper.wp_mono ?_ (hend D a u h hDall oz hoz))
    intro a' u' hq
    exact⟨hcl2,Or.inr ⟨qnw D i,fun j hj=>by rw[qen (by omega)];exact hDall j hj,hq⟩⟩
   ·have hin2:i<n:=by omega
    have hP:=List.all_eq_true.1 hsl (o,i) (by rw[List.mem_zipIdx_iff_getElem?];show (l.take n)[i]? = some o;rw[List.getElem?_take,if_pos hin2];exact ho)
    simp only[Bool.and_eq_true,Option.isNone_iff_eq_none,beq_iff_eq,decide_eq_true_eq]at hP
    obtain⟨⟨hg,hd⟩,hlt⟩:=hP
    refine qkr hg (Oper.wp_mono ?_ (hstep D a u h i o hin2 ho hD ha))
    rintro a' u' ⟨v,rfl,hb,hF,hne⟩
    refine⟨hcl2,Or.inl ⟨by rw[qen (Ne.symm hin)];exact hDn,?_⟩⟩
    rw[hd]
    have hlt2:sl i<a.tmps.size:=by rw[h.size];exact hlt
    have hsame:(a.put (some (sl i)) v).tmps.getD (sl i) undef=v:=by
     show (a.tmps.setIfInBounds (sl i) v).getD (sl i) undef=v
     simp[Array.getD_eq_getD_getElem?,hlt2]
    have hoth:∀ k,k ≠ sl i->(a.put (some (sl i)) v).tmps.getD k undef=a.tmps.getD k undef:=fun k hk=>by
     show (a.tmps.setIfInBounds (sl i) v).getD k undef=_
     simp only[Array.getD_eq_getD_getElem?,Array.getElem?_setIfInBounds,if_neg (Ne.symm hk)]
    have hDj:∀ j,upd D i j=true->j ≠ i->D j=true:=fun j hj hn=>qzh hj hn
    refine⟨hS2 _ _ h.b hb,?_,h.dfs,fun k v hk=>?_,fun j hj=>?_,fun j k hjk hj hk=>?_⟩
    ·show (a.tmps.setIfInBounds (sl i) v).size=m
     rw[Array.size_setIfInBounds];exact h.size
    ·rw[hoth k (hold i k v hk)];exact h.old k v hk
    ·by_cases hji:j=i
     ·subst hji;rw[hsame];exact hF
     ·rw[hoth _ (hinj j i hji)];exact hst _ _ _ _ hb (h.fact j (hDj j hj hji))
    ·by_cases hji:j=i
     ·subst hji
      have hkj:=Ne.symm (hsym j k hjk).2
      rw[hsame,hoth _ (hinj k j hkj)]
      exact hne k hjk (hDj k hk hkj)
     ·by_cases hki:k=i
      ·subst hki
       rw[hsame,hoth _ (hinj j k hji)]
       exact Ne.symm (hne j (hsym j k hjk).1 (hDj j hj hji))
      ·rw[hoth _ (hinj j i hji),hoth _ (hinj k i hki)]
       exact h.ne j k hjk (hDj j hj hji) (hDj k hk hki)
  ·exfalso
   by_cases hin:i=n
   ·subst hin;rw[hDn]at hD;cases hD
   ·have:=hD2 i (by omega);rw[this]at hD;cases hD
 ·intro D a u hI hallD
  rcases hI.2 with⟨hDn,_⟩ | ⟨_,_,hq⟩
  ·have:=hallD n (by omega);rw[this]at hDn;cases hDn
  ·exact hq
end
section
variable {P : Program} {o : Oper} {a : Act} {w : World} {K : Act -> World -> Prop} {Q : Exit -> Act -> World -> Prop}
theorem qae {v:Value} {w':World} (h:(execOp a.eval o).run P w=.ok (.value v) w') (hK:K (a.put o.dst v) w'):o.wp P a w K Q:=by
 unfold Oper.wp
 rw[h]
 exact hK
theorem qvi {w':World} (h:(execOp a.eval o).run P w=.ok .skip w') (hK:K (a.put o.dst undef) w'):o.wp P a w K Q:=by
 unfold Oper.wp
 rw[h]
 exact hK
theorem qbx (x:Operand) (ho:o.op=.nilCheck x) (p:Addr) (hx:a.eval x=.pointer (some p)) (hK:K (a.put o.dst (.pointer (some p))) w):o.wp P a w K Q:=
 qae (v:=.pointer (some p)) (w':=w) (by unfold execOp;simp only[ho];rw[hx];rfl) hK
theorem qtg (t:TypeId) (xs:Array (Nat × Operand)) (ho:o.op=.build t xs) (parts:Array (Nat × Value)) (hx:xs.map (fun p=>(p.1,a.eval p.2))=parts) (cells:Array Value) (hb:P.built t parts.toList=some cells)
  (hK:K (a.put o.dst (.agg cells)) w):o.wp P a w K Q:=
 qae (v:=.agg cells) (w':=w) (by
  unfold execOp
  simp only[ho]
  rw[hx]
  simp[run_build w t parts cells hb]) hK
theorem ybas (t:TypeId) (x:Operand) (ho:o.op=.box t x) (R:Array Value) (hx:a.eval x=.agg R) (hK:K (a.put o.dst (.pointer (some ⟨w.heap.size,0,none⟩))) (w.alloc (.cells R t))):o.wp P a w K Q:=
 qae (v:=.pointer (some ⟨w.heap.size,0,none⟩)) (w':=w.alloc (.cells R t)) (by
  unfold execOp
  simp only[ho,hx,Instr.box,newVar,Sem.run_bind]
  rfl) hK
theorem qnx (t:TypeId) (ho:o.op=.makeMap t none) (hK:K (a.put o.dst (.map (some w.heap.size))) (w.alloc (.map #[] 0))):o.wp P a w K Q:=
 qae (v:=.map (some w.heap.size)) (w':=w.alloc (.map #[] 0)) (by
  unfold execOp
  simp only[ho]
  rfl) hK
theorem qoh (f:FuncId) (xs:Array Operand) (ats:Array TypeId) (ho:o.op=.call { callee:=.value (.func f),args:=xs,argTypes:=ats })
  (hf:∀ args w,(callFunc f args).run P w=.ok (.enter f args) w) (args:Array Value) (hargs:#[]++xs.map a.eval++#[]=args) (R:Value->World->Prop)
  (hc:Calls P f args w fun e w'=>∃ v,e=.returned v/\R v w') (h:∀ v w',R v w'->K (a.put o.dst v) w'):o.wp P a w K Q:=by
 have e:execOp a.eval o=callFunc f (#[]++xs.map a.eval++#[]):=by
  obtain⟨dst,op,ty,pos,after,guard⟩:=o
  simp only at ho
  subst ho
  rfl
 unfold Oper.wp
 rw[e,hargs,hf]
 exact hc.mono fun e w' ⟨v,he,hr⟩=>by subst he;exact h v w' hr
end
def ybiz (cs:Array Value) (off:Nat) (vs:Array Value):Array Value:=vs.zipIdx.foldl (fun cs (p:Value × Nat)=>cs.setIfInBounds (off+p.2) p.1) cs
theorem qro (off:Nat):∀ (l:List Value) (n:Nat) (cs:Array Value),((l.zipIdx n).foldl (fun cs (p:Value × Nat)=>cs.setIfInBounds (off+p.2) p.1) cs).size=cs.size /\
  (off+n+l.length<=cs.size->∀ i,((l.zipIdx n).foldl (fun cs (p:Value × Nat)=>cs.setIfInBounds (off+p.2) p.1) cs)[i]? = if off+n<=i/\i<off+n+l.length then l[i - (off+n)]? else cs[i]?)
 | [],n,cs=>⟨rfl,fun _ i=>by rw[if_neg (by simp)];rfl⟩
 | v :: l,n,cs=>by
  rw[List.zipIdx_cons,List.foldl_cons]
  obtain⟨h1,h2⟩:=qro off l (n+1) (cs.setIfInBounds (off+n) v)
  rw[Array.size_setIfInBounds]at h1 h2
  refine⟨h1,fun hl i=>?_⟩
  rw[List.length_cons]at hl
  rw[h2 (by omega) i,Array.getElem?_setIfInBounds]
  rw[List.length_cons]
  by_cases ha:off+(n+1)<=i/\i<off+(n+1)+l.length
  ·rw[if_pos ha,if_pos (by omega),show i - (off+n)=(i - (off+(n+1)))+1 by omega,List.getElem?_cons_succ]
  ·rw[if_neg ha]
   by_cases hb:off+n=i
   ·subst hb
    rw[if_pos rfl,if_pos (by omega),if_pos (by omega),Nat.sub_self]
    rfl
   ·rw[if_neg hb,if_neg (by omega)]
theorem ybja (cs:Array Value) (off:Nat) (vs:Array Value):(ybiz cs off vs).size=cs.size:=by
 unfold ybiz
 rw[<-Array.foldl_toList,Array.toList_zipIdx]
 exact (qro off vs.toList 0 cs).1
theorem ybon (cs:Array Value) (off:Nat) (vs:Array Value) (h:off+vs.size<=cs.size) (i:Nat):(ybiz cs off vs)[i]? = if off<=i/\i<off+vs.size then vs[i - off]? else cs[i]? :=by
 unfold ybiz
 rw[<-Array.foldl_toList,Array.toList_zipIdx]
 have:=(qro off vs.toList 0 cs).2 (by simpa using h) i
 rw[this]
 simp
theorem ybrw {place:Nat->Option (Nat × Nat)} {cells:Array Value} {i:Nat} {v:Value} {rest:List (Nat × Value)} (off size:Nat) (hp:place i=some (off,size)) (hv:v.cells.size=size) (hl:off+size<=cells.size):
  Instr.fill place cells ((i,v) :: rest)=Instr.fill place (ybiz cells off v.cells) rest:=by
 rw[Instr.fill,hp]
 simp only
 rw[if_neg (by simp[hv];omega)]
 rfl
theorem yblv (n:Nat) (b:Act) (hs:b.tmps.size=n) (hd:b.defers=[]):b=⟨((List.range n).map fun k=>b.tmps.getD k undef).toArray,[]⟩:=by
 obtain⟨t,d⟩:=b
 simp only at hs hd
 subst hd
 congr 1
 apply Array.ext
 ·simp[hs]
 ·intro i h1 h2
  simp[h1]
theorem ybau {P:Program} {o:Oper} {a:Act} {w:World} {K:Act->World->Prop} {Q:Exit->Act->World->Prop} (ty:TypeId) (x y:Operand) (ho:o.op=.store ty x y)
  (g off:Nat) (n:Int) (hx:a.eval x=.pointer (some ⟨g,off,none⟩)) (hy:a.eval y=.int .i64 n) (hi:(P.info? ty).map (·.size)=some 1)
  (old:Array Value) (t:TypeId) (hg:w.heap[g]? = some (.cells old t (0,0))) (ho2:off<old.size)
  (h:K (a.put o.dst undef) (w.setCell ⟨g,off,none⟩ (.int .i64 n))):o.wp P a w K Q:=by
 have hc:w.cell? ⟨g,off,none⟩=some old[off]:=by rw[cell_of_row _ _ _ _ _ _ hg];exact Array.getElem?_eq_getElem ho2
 have hf:w.frozen? ⟨g,off,none⟩=false:=frozen_of_row _ _ _ _ _ hg
 cases hq:P.info? ty with
 | none=>simp[hq]at hi
 | some i=>
  have hs:i.size=1:=by simpa[hq]using hi
  unfold Oper.wp execOp
  simp only[ho,hx,hy]
  have hz:(sizeOf ty).run P w=.ok 1 w:=by simp[sizeOf,typeInfo,hq,hs]
  simp[go_sem,hz,hc,hf,Result.andThen]
  exact h
def slS (S:List Nat) (n m i:Nat):Nat:=if i<n then S.getD i 0 else m+i
theorem yblw (a0 b:Act) (S:List Nat) (f:Nat->Value) (hf:∀ k,b.tmps.getD k undef=f k) (hs:b.tmps.size=a0.tmps.size) (hd:b.defers=[]) (hold:∀ k,k<a0.tmps.size->k ∉ S->b.tmps.getD k undef=a0.tmps.getD k undef):
  b=⟨S.foldl (fun t k=>t.setIfInBounds k (f k)) a0.tmps,[]⟩:=by
 obtain⟨t,d⟩:=b
 simp only at hf hs hd hold
 subst hd
 have gen:∀ (S:List Nat) (t0:Array Value),t0.size=a0.tmps.size->(S.foldl (fun t k=>t.setIfInBounds k (f k)) t0).size=a0.tmps.size/\∀ k,k<a0.tmps.size->(S.foldl (fun t k=>t.setIfInBounds k (f k)) t0).getD k undef=if k ∈ S then f k else t0.getD k undef:=by
  intro S
  induction S with
  | nil=>intro t0 h0;exact⟨h0,fun k _=>by simp⟩
  | cons c S ih=>
   intro t0 h0
   rw[List.foldl_cons]
   obtain⟨h1,h2⟩:=ih (t0.setIfInBounds c (f c)) (by rw[Array.size_setIfInBounds];exact h0)
   refine⟨h1,fun k hk=>?_⟩
   rw[h2 k hk]
   by_cases hkS:k ∈ S
   ·rw[if_pos hkS,if_pos (List.mem_cons_of_mem _ hkS)]
   ·rw[if_neg hkS]
    by_cases hkc:k=c
    ·subst hkc
     rw[if_pos List.mem_cons_self]
     simp[Array.getD_eq_getD_getElem?,h0,hk]
    ·rw[if_neg (by simp[hkc,hkS])]
     simp only[Array.getD_eq_getD_getElem?,Array.getElem?_setIfInBounds,if_neg (Ne.symm hkc)]
 obtain⟨g1,g2⟩:=gen S a0.tmps rfl
 have gd:∀ (A:Array Value) (i:Nat) (h:i<A.size),A[i]=A.getD i undef:=fun A i h=>by simp[h]
 congr 1
 apply Array.ext
 ·rw[g1,hs]
 ·intro i h1 h2
  have hi:i<a0.tmps.size:=by omega
  rw[gd _ i h1,gd _ i h2,g2 i hi]
  by_cases hiS:i ∈ S
  ·rw[if_pos hiS];exact hf i
  ·rw[if_neg hiS];exact hold i hi hiS
theorem qhe {P:Program} {l:List Oper} {Q:Exit->Act->World->Prop} {id:Nat} {a:Act} {w:World} (hm:P.follows .mixedOrders=true) (hr:qsq l=true) (St:World->World->Prop) (hS0:St w w.drew) (hS2:∀ u u',St w u->St u u'->St w u') (m:Nat) (S:List Nat) (F:Nat->Value->World->Prop)
  (hst:∀ j v u u',St u u'->F j v u->F j v u') (n:Nat) (hlast:ybyi l n=true)
  (hS:((S.length == n) && S.all (fun k=>decide (k<m)) && decide S.Nodup && ((l.take n).zipIdx.all fun p=>p.1.guard.isNone && p.1.dst == some (S.getD p.2 0)))=true)
  (h0:a.tmps.size=m/\a.defers=[])
  (hstep:∀ D b u,FI St m (slS S n m) F (fun _ _=>False) (fun k v=>k<m/\k ∉ S/\a.tmps.getD k undef=v) w D b u->∀ i o,i<n->l[i]? = some o->D i=false->(∀ e ∈ o.after,Region.binds .any e=true->D e.on=true) ->
   o.wp P b u (fun a' u'=>∃ v,a'=b.put o.dst v/\St u u'/\F i v u') Q)
  (hend:∀ D b u,FI St m (slS S n m) F (fun _ _=>False) (fun k v=>k<m/\k ∉ S/\a.tmps.getD k undef=v) w D b u->(∀ i,i<n->D i=true)->∀ o,l[n]? = some o->∀ f:Nat->Value,(∀ k,b.tmps.getD k undef=f k)->b=⟨S.foldl (fun t k=>t.setIfInBounds k (f k)) a.tmps,[]⟩ ->
   o.wp P b u (fun a' u'=>Q .normal a' u') Q):(Code.region id l.toArray true).wp P Q a w:=by
 simp only[Bool.and_eq_true,beq_iff_eq,decide_eq_true_eq]at hS
 obtain⟨⟨⟨hlen,hlt⟩,hnd⟩,hsl⟩:=hS
 have hlt2:∀ i,i<n->S.getD i 0<m:=fun i hi=>by
  have h1:i<S.length:=by omega
  have:=List.all_eq_true.1 hlt S[i] (List.getElem_mem h1)
  rw[List.getD_eq_getElem?_getD,List.getElem?_eq_getElem h1]
  simpa using this
 have hmem:∀ i,i<n->S.getD i 0 ∈ S:=fun i hi=>by
  have h1:i<S.length:=by omega
  rw[List.getD_eq_getElem?_getD,List.getElem?_eq_getElem h1]
  exact List.getElem_mem h1
 refine qld hm hr St hS0 hS2 m (slS S n m) F (fun _ _=>False) (fun k v=>k<m/\k ∉ S/\a.tmps.getD k undef=v) hst (fun _ _ hc=>hc.elim) (fun i j hij=>?_) (fun i k v hk=>?_) n hlast ?_ ⟨h0.1,h0.2,fun k v hk=>hk.2.2⟩ (fun D b u hI i o hi ho hD ha=>Oper.wp_mono ?_ (hstep D b u hI i o hi ho hD ha)) (fun D b u hI hall o ho=>hend D b u hI hall o ho _ (fun _=>rfl) (yblw a b S _ (fun _=>rfl) (by rw[hI.size,h0.1]) hI.dfs fun k hk hkS=>hI.old k _ ⟨by rw[<-h0.1];exact hk,hkS,rfl⟩))
 ·unfold slS
  by_cases hi:i<n
  ·by_cases hj:j<n
   ·rw[if_pos hi,if_pos hj]
    intro hc
    have h1:i<S.length:=by omega
    have h2:j<S.length:=by omega
    rw[List.getD_eq_getElem?_getD,List.getElem?_eq_getElem h1,List.getD_eq_getElem?_getD,List.getElem?_eq_getElem h2]at hc
    rcases Nat.lt_or_gt_of_ne hij with h3 | h3
    ·exact List.pairwise_iff_getElem.1 hnd i j h1 h2 h3 hc
    ·exact List.pairwise_iff_getElem.1 hnd j i h2 h1 h3 hc.symm
   ·rw[if_pos hi,if_neg hj];have:=hlt2 i hi;omega
  ·by_cases hj:j<n
   ·rw[if_neg hi,if_pos hj];have:=hlt2 j hj;omega
   ·rw[if_neg hi,if_neg hj];omega
 ·obtain⟨hk1,hk2,_⟩:=hk
  unfold slS
  by_cases hi:i<n
  ·rw[if_pos hi];intro hc;exact hk2 (hc ▸ hmem i hi)
  ·rw[if_neg hi];omega
 ·rw[List.all_eq_true]at hsl ⊢
  intro p hp
  have:=hsl p hp
  simp only[Bool.and_eq_true,Option.isNone_iff_eq_none,beq_iff_eq]at this
  have hpn:p.2<n:=by
   have h1:=List.mem_zipIdx_iff_getElem?.1 hp
   have:=(List.getElem?_eq_some_iff.1 h1).1
   rw[List.length_take]at this
   omega
  have e:slS S n m p.2=S.getD p.2 0:=by unfold slS;rw[if_pos hpn]
  simp only[e,Bool.and_eq_true,Option.isNone_iff_eq_none,beq_iff_eq,decide_eq_true_eq]
  exact⟨this,hlt2 _ hpn⟩
 ·rintro a' u' ⟨v,h1,h2,h3⟩
  exact⟨v,h1,h2,h3,fun _ hc=>hc.elim⟩
end Go.Proofs.YtpoglnpjadmbpaaGreatDoor
