import Derived.Test.YtakfhadmokoikaaGreatDoorKA2
import Derived.BigQuiet
import Derived.Lib.QuietBelow
import Derived.Laws.Tables
import Derived.Test.YtakfhadmokoikaaGreatDoorProg
import Derived.Lib.Hide
import Derived.Lib.SliceRun
import Derived.OwnWalk
import Derived.Laws.AppendOwn
import Derived.StillTail
import Derived.Deep.MidRow
import Derived.LoopTactic
import Derived.IntWalk
import Derived.Deep.QuietTactic
set_option maxHeartbeats 0
set_option linter.all false
set_option maxRecDepth 100000
namespace Go.Proofs.YtakfhadmokoikaaGreatDoor
open Go.Proofs.Tryz Go.RowKit
variable {Q:Exit->Act->World->Prop} {a:Act} {i id n:Nat} {l:List Oper} {o:Oper} {v:Value} {w w':World}
abbrev jP:=@results56
abbrev lA:=@func30
abbrev lz:=@func39
abbrev nO:=@ntmps39
abbrev nP:=@ntmps30
abbrev qH:=@func10
abbrev r8:=@Lib.run_eql_slice_nil
abbrev rG:=@ntmps10
abbrev rR:=@results114
abbrev tL:=@results101
abbrev tm:=@BigFrame.wpQuiet_want
abbrev ux:=@results98
abbrev vq:=@wpQuiet_nil
theorem sL (h:∃p:Regrown,w'=Sort.grow (redrawn w p.d) p.os):Below w w w':=by obtain⟨p,rfl⟩:=h;exact below_regrown w p.d p.os
theorem fU (h:∃p:Regrown,w'=Sort.grow (redrawn w p.d) p.os) {o:Obj} (a:w.heap[i]?=some o):w'.heap[i]?=some o:=we (sL h) a
theorem qk {w'':World} (h:∃p:Regrown,w'=Sort.grow (redrawn w p.d) p.os) (a:Below w' w' w''):∃p:Regrown,w''=Sort.grow (redrawn w p.d) p.os:=
 regrown_of_below (Below.step (sL h) a)
section
variable {P : Program}
theorem I8 {o:Oper} {a:Act} {C:World->Prop} {K:Act->Prop} (ty:TypeId) (x:Operand) (ho:o.op=.load ty x)
 (g:Nat) (hx:a.eval x=.pointer (some ⟨g,0,none⟩)) (t:TypeId) (cs:Array Value) (fr:Nat×Nat) (d:TypeDesc) (hg:∀w,C w->w.heap[g]?=some (.cells cs t fr))
 (hu:P.underlying ty=some d) (hd:(match d with|.struct _|.array _ _=>true|_=>false)=true) (hi:(P.info? ty).map (·.size)=some cs.size)
 (h:K (a.put o.dst (.agg cs))):o.quiet P a C K:=
 ⟨.agg cs,fun w b=>by unfold Oper.quietAt execOp;simp only[ho,hx,Instr.loadAt,Instr.sureAddr,xI,uE,yX,lV w g t ty cs fr d (hg w b) hu hd hi];exact⟨rfl,rfl⟩,h⟩
theorem IQ {ops:Array Oper} {Q:Act->Prop} {rest:List Oper} {o:Oper} {a:Act} {C:World->Prop} (hw:Region.wanted o (yielded ops a.tmps)=true) (ty:TypeId) (x:Operand) (ho:o.op=.load ty x)
 (g:Nat) (hx:a.eval x=.pointer (some ⟨g,0,none⟩)) (t:TypeId) (cs:Array Value) (fr:Nat×Nat) (d:TypeDesc) (hg:∀w,C w->w.heap[g]?=some (.cells cs t fr))
 (hu:P.underlying ty=some d) (hd:(match d with|.struct _|.array _ _=>true|_=>false)=true) (hi:(P.info? ty).map (·.size)=some cs.size)
 (h:wpQuiet P ops C Q rest (a.put o.dst (.agg cs))):wpQuiet P ops C Q (o::rest) a:=
 tm hw fun _ b=>I8 ty x ho g hx t cs fr d hg hu hd hi (b _ h)
theorem qD {ops:Array Oper} {Q:Act->Prop} {rest:List Oper} {C:World->Prop} (f:FuncId) (p:Array Operand) (q:Array TypeId) (r:o.op=.call {callee:=.value (.func f),args:=p,argTypes:=q})
 (s:Region.wanted o (yielded ops a.tmps)=true) (t:∀args w,(callFunc f args).run P w=.ok (.enter f args) w) (args:Array Value) (n:#[]++p.map a.eval++#[]=args) (v:Value)
 (u:∀w' w'',C w'->Below w' w' w''->C w'') (x:∀w',C w'->Calls P f args w' fun e w''=>e=.returned v/\Below w' w' w'') (h:wpQuiet P ops C Q rest (a.put o.dst v)):wpQuiet P ops C Q (o::rest) a:=
 tm s fun _ j=>⟨v,fun w' b=>by
  have e:execOp a.eval o=callFunc f (#[]++p.map a.eval++#[]):=by obtain⟨g,l,m,pos,c,d⟩:=o;simp only at r;subst r;rfl
  unfold Oper.quietAt;rw[e,n,t];exact⟨rfl,(x w' b).mono fun _ _ ⟨i,k⟩=>⟨i,u _ _ b k⟩⟩,j _ h⟩
end
section
variable {P : Program} {l : List Oper}
structure FI (St:World->World->Prop) (m:Nat) (sl:Nat->Nat) (F:Nat->Value->World->Prop) (pr:Nat->Nat->Prop) (old:Nat->Value->Prop) (w0:World) (D:Nat->Bool) (a:Act) (u:World):Prop where
 b:St w0 u
 size:a.tmps.size=m
 dfs:a.defers=[]
 old:∀k v,old k v->a.tmps.getD k undef=v
 fact:∀i,D i=true->F i (a.tmps.getD (sl i) undef) u
 ne:∀i j,pr i j->D i=true->D j=true->a.tmps.getD (sl i) undef≠a.tmps.getD (sl j) undef
theorem Hi (hm:P.follows .mixedOrders=true) (hr:gL l=true) (T:World->World->Prop) (Z:T w w.drew) (aa:∀u u',T w u->T u u'->T w u') (m:Nat) (O:Nat->Nat) (F:Nat->Value->World->Prop) (W:Nat->Nat->Prop) (S:Nat->Value->Prop)
 (ab:∀j v u u',T u u'->F j v u->F j v u') (U:∀i j,W i j->W j i/\i≠j) (R:∀i j,i≠j->O i≠O j) (X:∀i k v,S k v->k≠O i)
 (ad:(l.zipIdx.all fun p=>p.1.guard.isNone&&p.1.dst==some (O p.2)&&decide (O p.2<m))=true)
 (h0:a.tmps.size=m/\a.defers=[]/\∀k v,S k v->a.tmps.getD k undef=v)
 (V:∀D a u,FI T m O F W S w D a u->∀i o,l[i]?=some o->D i=false->(∀e∈o.after,Region.binds .any e=true->D e.on=true) ->
  o.wp P a u (fun a' u'=>∃v,a'=a.put o.dst v/\T u u'/\F i v u'/\∀j,W i j->D j=true->v≠a.tmps.getD (O j) undef) Q)
 (Y:∀D a u,FI T m O F W S w D a u->(∀i,i<l.length->D i=true)->Q .normal a u):(Code.region id l.toArray true).wp P Q a w:=by
 refine KW hm hr (FI T m O F W S w) ?_ ?_ Y
 .exact⟨Z,h0.1,h0.2.1,h0.2.2,fun i B=>by simp at B,fun i j _ B=>by simp at B⟩
 .intro D a u h i o z I M;have K:i<l.length:=(zy.1 z).1;have N:l[i]=o:=(zy.1 z).2;have E:=yU.1 ad (o,i) (by rw[uo];exact z);simp only[yM,vV,vv,xo]at E;obtain⟨⟨H,G⟩,A⟩:=E;refine VP H (tZ ?_ (V D a u h i o z I M));rintro a' u' ⟨v,rfl,C,J,t⟩;rw[G];have y:O i<a.tmps.size:=by rw[h.size];exact A
  have f:(a.put (some (O i)) v).tmps.getD (O i) undef=v:=by show (a.tmps.setIfInBounds (O i) v).getD (O i) undef=v;simp[xH,y]
  have c:∀k,k≠O i->(a.put (some (O i)) v).tmps.getD k undef=a.tmps.getD k undef:=fun k r=>by show (a.tmps.setIfInBounds (O i) v).getD k undef=_;simp only[xH,yO,zb (yF r)]
  have g:∀j,upd D i j=true->j≠i->D j=true:=fun j s L=>mZ s L;refine⟨aa _ _ h.b C,?_,h.dfs,fun k v r=>?_,fun j s=>?_,fun j k n s r=>?_⟩
  .show (a.tmps.setIfInBounds (O i) v).size=m;rw[wb];exact h.size
  .rw[c k (X i k v r)];exact h.old k v r
  .by_cases d:j=i
   .subst d;rw[f];exact J
   .rw[c _ (R j i d)];exact ab _ _ _ _ C (h.fact j (g j s d))
  .by_cases d:j=i
   .subst d;have x:=yF (U j k n).2;rw[f,c _ (R k j x)];exact t k n (g k r x)
   .by_cases q:k=i
    .subst q;rw[f,c _ (R j k d)];exact yF (t j (U j k n).1 (g j s d))
    .rw[c _ (R j i d),c _ (R k i q)];exact h.ne j k n (g j s d) (g k r q)
def ki (l:List Oper) (j k:Nat):Bool:=match l[j]? with|some o=>o.after.any fun e=>Region.binds .any e&&(e.on==k)|none=>false
def kA (l:List Oper) (n:Nat):List Nat:=(List.range n).reverse.foldl (fun R k=>if R.any (fun j=>ki l j k) then k::R else R) [n]
def jX (l:List Oper) (n:Nat):Bool:=(l.length==n+1)&&(match l[n]? with|some o=>o.guard.isNone|none=>false)&&((List.range n).all fun i=>(kA l n).contains i)
theorem O3 {D:Nat->Bool} (x:l[n]?=some o) (y:∀e∈o.after,Region.binds .any e=true->D e.on=true) (w:∀k o,l[k]?=some o->D k=true->∀e∈o.after,Region.binds .any e=true->D e.on=true):∀k∈kA l n,k≠n->D k=true:=by
 unfold kA;have p:∀(m:List Nat) (R:List Nat),(∀k∈R,k≠n->D k=true)->∀k∈m.foldl (fun R k=>if R.any (fun j=>ki l j k) then k::R else R) R,k≠n->D k=true:=by
  intro m
  induction m with
  | nil=>intro R h;exact h
  | cons c m u=>
   intro R h;rw[wS];refine u _ fun k d b=>?_;by_cases r:R.any (fun j=>ki l j c)=true
   .rw[ze r]at d;rcases yN.1 d with rfl|d
    .obtain⟨j,t,i⟩:=xX.1 r;unfold ki at i;cases a:l[j]? with
     | none=>rw[a]at i;cases i
     | some v=>
      rw[a]at i;obtain⟨q,s,f⟩:=Array.any_eq_true.1 i;simp only[yM,vv]at f;rw[<-f.2];by_cases g:j=n
      .subst g;rw[x]at a;injection a with a;subst a;exact y _ (Array.getElem_mem s) f.1
      .exact w j v a (h j t g) _ (Array.getElem_mem s) f.1
    .exact h k d b
   .rw[zb r]at d;exact h k d b
 exact p _ [n] (fun k d b=>by simp at d;exact yb d b)
theorem IK (hm:P.follows .mixedOrders=true) (hr:gL l=true) (St:World->World->Prop) (ao:St w w.drew) (ap:∀u u',St w u->St u u'->St w u') (m:Nat) (sl:Nat->Nat) (F:Nat->Value->World->Prop) (pr:Nat->Nat->Prop) (af:Nat->Value->Prop)
 (aq:∀j v u u',St u u'->F j v u->F j v u') (ah:∀i j,pr i j->pr j i/\i≠j) (ae:∀i j,i≠j->sl i≠sl j) (al:∀i k v,af k v->k≠sl i)
 (n:Nat) (aa:jX l n=true)
 (ar:((l.take n).zipIdx.all fun p=>p.1.guard.isNone&&p.1.dst==some (sl p.2)&&decide (sl p.2<m))=true)
 (h0:a.tmps.size=m/\a.defers=[]/\∀k v,af k v->a.tmps.getD k undef=v)
 (aj:∀D a u,FI St m sl F pr af w D a u->∀i o,i<n->l[i]?=some o->D i=false->(∀e∈o.after,Region.binds .any e=true->D e.on=true) ->
  o.wp P a u (fun a' u'=>∃v,a'=a.put o.dst v/\St u u'/\F i v u'/\∀j,pr i j->D j=true->v≠a.tmps.getD (sl j) undef) Q)
 (am:∀D a u,FI St m sl F pr af w D a u->(∀i,i<n->D i=true)->∀o,l[n]?=some o->o.wp P a u (fun a' u'=>Q .normal a' u') Q):(Code.region id l.toArray true).wp P Q a w:=by
 unfold jX at aa;simp only[yM,vv]at aa;obtain⟨⟨ab,aa⟩,A⟩:=aa;obtain⟨oz,C⟩:∃o,l[n]?=some o:=⟨l[n]'(by omega),zf (by omega)⟩;rw[C]at aa;have Y:oz.guard=none:=by simpa using aa
 have T:∀i,i<n->i∈kA l n:=fun i R=>by have:=yU.1 A i (yT.2 R);simpa using this
 refine KW hm hr (fun D a u=>(∀k o,l[k]?=some o->D k=true->∀e∈o.after,Region.binds .any e=true->D e.on=true)/\((D n=false/\FI St m sl F pr af w D a u)\/(D n=true/\(∀i,i<n->D i=true)/\Q .normal a u))) ?_ ?_ ?_
 .exact⟨fun k o _ f=>by simp at f,zt ⟨rfl,ao,h0.1,h0.2.1,h0.2.2,fun i R=>by simp at R,fun i j _ R=>by simp at R⟩⟩
 .intro D a u N i o G L ha;obtain⟨U,N⟩:=N;have E:∀k o,l[k]?=some o->upd D i k=true->∀e∈o.after,Region.binds .any e=true->upd D i e.on=true:=fun k ok f X e he K=>by
   have M:∀r,D r=true->upd D i r=true:=fun r hr=>(by simp[upd,hr]);by_cases q:k=i
   .subst q;rw[G]at f;injection f with f;subst f;exact M _ (ha e he K)
   .exact M _ (U k ok f (mZ X q) e he K)
  have ai:i<l.length:=(zy.1 G).1;rcases N with⟨s,h⟩|⟨s,Z,_⟩
  .by_cases B:i=n
   .subst B;rw[C]at G;injection G with G;subst G;have t:∀j,j<i->D j=true:=fun j y=>O3 C ha U j (T j y) (by omega);refine VP Y (tZ ?_ (am D a u h t oz C));intro a' u' W;exact⟨E,zu ⟨Ww D i,fun j y=>by rw[qv (by omega)];exact t j y,W⟩⟩
   .have H:i<n:=(by omega);have hP:=yU.1 ar (o,i) (by rw[uo];show (l.take n)[i]?=some o;rw[zI,ze H];exact G);simp only[yM,vV,vv,xo]at hP;obtain⟨⟨hg,hd⟩,V⟩:=hP;refine VP hg (tZ ?_ (aj D a u h i o H G L ha));rintro a' u' ⟨v,rfl,K,hF,J⟩;refine⟨E,zt ⟨by rw[qv (yF B)];exact s,?_⟩⟩;rw[hd];have S:sl i<a.tmps.size:=(by rw[h.size];exact V);have g:(a.put (some (sl i)) v).tmps.getD (sl i) undef=v:=(by show (a.tmps.setIfInBounds (sl i) v).getD (sl i) undef=v;simp[xH,S]);have c:∀k,k≠sl i->(a.put (some (sl i)) v).tmps.getD k undef=a.tmps.getD k undef:=fun k f=>(by show (a.tmps.setIfInBounds (sl i) v).getD k undef=_;simp only[xH,yO,zb (yF f)]);have x:∀j,upd D i j=true->j≠i->D j=true:=fun j y hn=>mZ y hn;refine⟨ap _ _ h.b K,?_,h.dfs,fun k v f=>?_,fun j y=>?_,fun j k z y f=>?_⟩
    .show (a.tmps.setIfInBounds (sl i) v).size=m;rw[wb];exact h.size
    .rw[c k (al i k v f)];exact h.old k v f
    .by_cases d:j=i
     .subst d;rw[g];exact hF
     .rw[c _ (ae j i d)];exact aq _ _ _ _ K (h.fact j (x j y d))
    .by_cases d:j=i
     .subst d;have O:=yF (ah j k z).2;rw[g,c _ (ae k j O)];exact J k z (x k f O)
     .by_cases q:k=i
      .subst q;rw[g,c _ (ae j k d)];exact yF (J j (ah j k z).1 (x j y d))
      .rw[c _ (ae j i d),c _ (ae k i q)];exact h.ne j k z (x j y d) (x k f q)
  .exfalso;by_cases B:i=n
   .subst B;rw[s]at L;cases L
   .have:=Z i (by omega);rw[this]at L;cases L
 .intro D a u N I;rcases N.2 with⟨s,_⟩|⟨_,_,W⟩
  .have:=I n (by omega);rw[this]at s;cases s
  .exact W
end
section
variable {P : Program} {o : Oper} {a : Act} {w : World} {K : Act->World->Prop} {Q : Exit->Act->World->Prop}
theorem sK (h:(execOp a.eval o).run P w=.ok (.value v) w') (b:K (a.put o.dst v) w'):o.wp P a w K Q:=by unfold Oper.wp;rw[h];exact b
theorem K7 (h:(execOp a.eval o).run P w=.ok .skip w') (b:K (a.put o.dst undef) w'):o.wp P a w K Q:=by unfold Oper.wp;rw[h];exact b
theorem mv (x:Operand) (b:o.op=.nilCheck x) (p:Addr) (c:a.eval x=.pointer (some p)) (d:K (a.put o.dst (.pointer (some p))) w):o.wp P a w K Q:=
 sK (v:=.pointer (some p)) (w':=w) (by unfold execOp;simp only[b];rw[c];rfl) d
theorem JR (t:TypeId) (c:Array (Nat×Operand)) (d:o.op=.build t c) (b:Array (Nat×Value)) (e:c.map (fun p=>(p.1,a.eval p.2))=b) (cells:Array Value) (f:P.built t b.toList=some cells)
 (g:K (a.put o.dst (.agg cells)) w):o.wp P a w K Q:=
 sK (v:=.agg cells) (w':=w) (by unfold execOp;simp only[d];rw[e];simp[run_build w t b cells f]) g
theorem Xx (t:TypeId) (x:Operand) (b:o.op=.box t x) (R:Array Value) (c:a.eval x=.agg R) (d:K (a.put o.dst (w.heap.size,())) (w.alloc (.cells R t))):o.wp P a w K Q:=
 sK (v:=.pointer (some ⟨w.heap.size,0,none⟩)) (w':=w.alloc (.cells R t)) (by unfold execOp;simp only[b,c,Instr.box,newVar,xI];rfl) d
theorem IA (t:TypeId) (b:o.op=.makeMap t none) (c:K (a.put o.dst (.map (some w.heap.size))) (w.alloc (.map #[] 0))):o.wp P a w K Q:=
 sK (v:=.map (some w.heap.size)) (w':=w.alloc (.map #[] 0)) (by unfold execOp;simp only[b];rfl) c
theorem Ve (f:FuncId) (m:Array Operand) (n:Array TypeId) (p:o.op=.call {callee:=.value (.func f),args:=m,argTypes:=n})
 (q:∀args w,(callFunc f args).run P w=.ok (.enter f args) w) (args:Array Value) (l:#[]++m.map a.eval++#[]=args) (R:Value->World->Prop)
 (r:Calls P f args w fun e w'=>∃v,e=.returned v/\R v w') (h:∀v w',R v w'->K (a.put o.dst v) w'):o.wp P a w K Q:=by
 have e:execOp a.eval o=callFunc f (#[]++m.map a.eval++#[]):=by obtain⟨d,j,k,pos,b,c⟩:=o;simp only at p;subst p;rfl
 unfold Oper.wp;rw[e,l,q];exact r.mono fun e w' ⟨v,g,i⟩=>by subst g;exact h v w' i
end
def nZ (cs:Array Value) (off:Nat) (vs:Array Value):Array Value:=vs.zipIdx.foldl (fun cs (p:Value×Nat)=>cs.setIfInBounds (off+p.2) p.1) cs
theorem Kh (f:Nat):∀(l:List Value) (n:Nat) (cs:Array Value),((l.zipIdx n).foldl (fun cs (p:Value×Nat)=>cs.setIfInBounds (f+p.2) p.1) cs).size=cs.size /\
 (f+n+l.length<=cs.size->∀i,((l.zipIdx n).foldl (fun cs (p:Value×Nat)=>cs.setIfInBounds (f+p.2) p.1) cs)[i]?=if f+n<=i/\i<f+n+l.length then l[i-(f+n)]? else cs[i]?)
 | [],n,cs=>⟨rfl,fun _ i=>by rw[zb (by simp)];rfl⟩
 | v::l,n,cs=>by
  rw[List.zipIdx_cons,wS];obtain⟨c,a⟩:=Kh f l (n+1) (cs.setIfInBounds (f+n) v);rw[wb]at c a;refine⟨c,fun e i=>?_⟩;rw[yz]at e;rw[a (by omega) i,yO];rw[yz];by_cases b:f+(n+1)<=i/\i<f+(n+1)+l.length
  .rw[ze b,ze (by omega),show i-(f+n)=(i-(f+(n+1)))+1 by omega,zk]
  .rw[zb b];by_cases d:f+n=i
   .subst d;rw[ze rfl,ze (by omega),ze (by omega),uF];rfl
   .rw[zb d,zb (by omega)]
theorem O5 (cs:Array Value) (a:Nat) (b:Array Value):(nZ cs a b).size=cs.size:=by unfold nZ;rw[<-Array.foldl_toList,Array.toList_zipIdx];exact (Kh a b.toList 0 cs).1
theorem Q5 (cs:Array Value) (a:Nat) (b:Array Value) (h:a+b.size<=cs.size) (i:Nat):(nZ cs a b)[i]?=if a<=i/\i<a+b.size then b[i-a]? else cs[i]? :=by unfold nZ;rw[<-Array.foldl_toList,Array.toList_zipIdx];have:=(Kh a b.toList 0 cs).2 (by simpa using h) i;rw[this];simp
theorem RP {place:Nat->Option (Nat×Nat)} {cells:Array Value} {rest:List (Nat×Value)} (b a:Nat) (c:place i=some (b,a)) (d:v.cells.size=a) (e:b+a<=cells.size):
 Instr.fill place cells ((i,v)::rest)=Instr.fill place (nZ cells b v.cells) rest:=by
 rw[Instr.fill,c];simp only;rw[zb (by simp[d];omega)];rfl
theorem P2 (n:Nat) (b:Act) (e:b.tmps.size=n) (f:b.defers=[]):b=⟨((List.range n).map fun k=>b.tmps.getD k undef).toArray,[]⟩:=by
 obtain⟨t,d⟩:=b;simp only at e f;subst f
 congr 1
 apply Array.ext
 .simp[e]
 .intro i a c;simp[a]
def slS (S:List Nat) (n m i:Nat):Nat:=if i<n then S.getD i 0 else m+i
theorem P1 (w b:Act) (S:List Nat) (f:Nat->Value) (y:∀k,b.tmps.getD k undef=f k) (z:b.tmps.size=w.tmps.size) (B:b.defers=[]) (x:∀k,k<w.tmps.size->k∉S->b.tmps.getD k undef=w.tmps.getD k undef):
 b=⟨S.foldl (fun t k=>t.setIfInBounds k (f k)) w.tmps,[]⟩:=by
 obtain⟨t,d⟩:=b;simp only at y z B x;subst B;have n:∀(S:List Nat) (j:Array Value),j.size=w.tmps.size->(S.foldl (fun t k=>t.setIfInBounds k (f k)) j).size=w.tmps.size/\∀k,k<w.tmps.size->(S.foldl (fun t k=>t.setIfInBounds k (f k)) j).getD k undef=if k∈S then f k else j.getD k undef:=by
  intro S
  induction S with
  | nil=>intro j l;exact⟨l,fun k _=>by simp⟩
  | cons c S v=>
   intro j l;rw[wS];obtain⟨o,m⟩:=v (j.setIfInBounds c (f c)) (by rw[wb];exact l);refine⟨o,fun k p=>?_⟩;rw[m k p];by_cases a:k∈S
   .rw[ze a,ze (xh _ a)]
   .rw[zb a];by_cases g:k=c
    .subst g;rw[ze xx];simp[xH,l,p]
    .rw[zb (by simp[g,a])];simp only[xH,yO,zb (yF g)]
 obtain⟨u,s⟩:=n S w.tmps rfl;have q:∀(A:Array Value) (i:Nat) (h:i<A.size),A[i]=A.getD i undef:=fun A i h=>by simp[h]
 congr 1
 apply Array.ext
 .rw[u,z]
 .intro i o m;have r:i<w.tmps.size:=by omega
  rw[q _ i o,q _ i m,s i r];by_cases e:i∈S
  .rw[ze e];exact y i
  .rw[zb e];exact x i r e
theorem Hh {P:Program} (hm:P.follows .mixedOrders=true) (hr:gL l=true) (T:World->World->Prop) (Y:T w w.drew) (Z:∀u u',T w u->T u u'->T w u') (m:Nat) (S:List Nat) (F:Nat->Value->World->Prop)
 (aa:∀j v u u',T u u'->F j v u->F j v u') (n:Nat) (U:jX l n=true)
 (hS:((S.length==n)&&S.all (fun k=>decide (k<m))&&decide S.Nodup&&((l.take n).zipIdx.all fun p=>p.1.guard.isNone&&p.1.dst==some (S.getD p.2 0)))=true)
 (X:a.tmps.size=m/\a.defers=[])
 (V:∀D b u,FI T m (slS S n m) F (fun _ _=>False) (fun k v=>k<m/\k∉S/\a.tmps.getD k undef=v) w D b u->∀i o,i<n->l[i]?=some o->D i=false->(∀e∈o.after,Region.binds .any e=true->D e.on=true) ->
  o.wp P b u (fun a' u'=>∃v,a'=b.put o.dst v/\T u u'/\F i v u') Q)
 (W:∀D b u,FI T m (slS S n m) F (fun _ _=>False) (fun k v=>k<m/\k∉S/\a.tmps.getD k undef=v) w D b u->(∀i,i<n->D i=true)->∀o,l[n]?=some o->∀f:Nat->Value,(∀k,b.tmps.getD k undef=f k)->b=⟨S.foldl (fun t k=>t.setIfInBounds k (f k)) a.tmps,[]⟩ ->
  o.wp P b u (fun a' u'=>Q .normal a' u') Q):(Code.region id l.toArray true).wp P Q a w:=by
 simp only[yM,vv,xo]at hS;obtain⟨⟨⟨L,G⟩,z⟩,y⟩:=hS;have g:∀i,i<n->S.getD i 0<m:=fun i d=>by
  have c:i<S.length:=by omega
  have:=yU.1 G S[i] (zz c);rw[zh,zf c];simpa using this
 have E:∀i,i<n->S.getD i 0∈S:=fun i d=>by
  have c:i<S.length:=by omega
  rw[zh,zf c];exact zz c
 refine IK hm hr T Y Z m (slS S n m) F (fun _ _=>False) (fun k v=>k<m/\k∉S/\a.tmps.getD k undef=v) aa (fun _ _ h=>h.elim) (fun i j J=>?_) (fun i k v x=>?_) n U ?_ ⟨X.1,X.2,fun k v x=>x.2.2⟩ (fun D b u q i o d K O R=>tZ ?_ (V D b u q i o d K O R)) (fun D b u q C o K=>W D b u q C o K _ (fun _=>rfl) (P1 a b S _ (fun _=>rfl) (by rw[q.size,X.1]) q.dfs fun k x I=>q.old k _ ⟨by rw[<-X.1];exact x,I,rfl⟩))
 .unfold slS;by_cases d:i<n
  .by_cases r:j<n
   .rw[ze d,ze r];intro h;have c:i<S.length:=(by omega);have s:j<S.length:=(by omega);rw[zh,zf c,zh,zf s]at h;rcases Nat.lt_or_gt_of_ne J with A|A
    .exact wv.1 z i j c s A h
    .exact wv.1 z j i s c A h.symm
   .rw[ze d,zb r];have:=g i d;omega
  .by_cases r:j<n
   .rw[zb d,ze r];have:=g j r;omega
   .rw[zb d,zb r];omega
 .obtain⟨N,H,_⟩:=x;unfold slS;by_cases d:i<n
  .rw[ze d];intro h;exact H (h▸E i d)
  .rw[zb d];omega
 .rw[yU]at y ⊢;intro p M;have:=y p M;simp only[yM,vV,vv]at this;have B:p.2<n:=by have c:=uo.1 M;have:=(zy.1 c).1;rw[zi]at this;omega
  have e:slS S n m p.2=S.getD p.2 0:=by unfold slS;rw[ze B]
  simp only[e,yM,vV,vv,xo];exact⟨this,g _ B⟩
 .rintro a' u' ⟨v,c,s,A⟩;exact⟨v,c,s,A,fun _ h=>h.elim⟩
theorem jz: (prog.info? 3).map (fun i=>(i.zero,i.size,i.bytes))=some (some (.int .i64 0),1,8):=by kernel_rfl
theorem lk: prog.underlying 49=some (.slice 3):=by kernel_rfl
theorem PK (l:List Int):∀u∈ints l,u.oneCell'=true:=by intro u a;simp only[ints,zV]at a;obtain⟨x,_,rfl⟩:=a;rfl
def iZ (B:Nat) (l:List Int) (w:World) (e:Ending) (w':World):Prop:=∃v,e=.returned v/\w'.ownsRow B 3 1 v l.length (ints l)/\Below B w w'/\w.heap.size<=w'.heap.size
theorem Ub (v:Value) (l:List Int) (w:World) (h:vQ w v l) (T:l.length<=1000000):
 Calls prog 33 #[v] w (iZ w l w):=by
 obtain⟨O,H,m,p,q⟩:=xp jz;have Q:=Lib.hid H;have C:=Lib.hid m;have D:=Lib.hid p;have A:=Lib.hid q;clear H m p q;obtain⟨n,e⟩:=zA l.length;obtain⟨a,c,P,B⟩:∃a c,v=.slice a n c/\Hid (∀d,a=some d->∀j u,(ints l)[j]?=some u->w.cell? (d.add j)=some u)/\(a=none->n=0):=by
  obtain⟨S,⟨I,a,c,rfl⟩|⟨g,o,c,rfl,R⟩⟩:=h
  .refine⟨a,c,by rw[e.o,I],fun d _ j u x=>?_,fun _=>by rw[e.o];exact I⟩;have:=(zy.1 x).1;omega
  .refine⟨_,c,by rw[e.o],fun d J j u x=>?_,fun h=>by cases h⟩;cases J;have s:(⟨g,o,none⟩:Addr).add j=⟨g,o+j,none⟩:=(by unfold Addr.add;split<;>simp_all);rw[s];exact R j u x
 obtain⟨B,F⟩:=B;subst P;have i:(ints l).length=n*1:=by rw[vD,e.o];simp[ints]
 have t:=Lib.hid i;rw[<-e.o]at T;clear i h;unfold iZ;rw[<-e.o];have N:∀(w:World) (a:Option Addr) (n c y z:Nat),(binOp .eql 49 (a,n,c) (.slice none y z)).run prog w=.ok (.bool a.isNone) w:=fun w a n c y z=>r8 w _ _ a n c y z lk;cases a with
 | none=>
  have E:=Lib.hid (F rfl);clear F;go_enter func33,ntmps33;go_wp2;go_ret;exact⟨_,rfl,⟨t.o,zt ⟨rfl,E.o⟩⟩,zB,zL⟩
 | some d=>
  clear F;go_enter func33,ntmps33;go_wp2_with (at_builtin;refine yH _ rfl _ _ 49 rfl w.heap.size 3 O (.int .i64 0) 1 8 lk Q.o C.o D.o A.o rfl (by decide) _ _ _ rfl (uQ w #[] 0 zL zZ rfl) d n c (ints l) rfl ?qc1 ?qc2 ?qc3 ?qc4 ?qc5 ?qc6 ?_)
  case qc1=>exact t.o
  case qc2 =>intro j u x;have:=B.o d rfl j u x;rw[wk _ _ _ (zG this)];exact this
  case qc3=>exact PK l
  case qc4=>unfold maxLen;omega
  case qc5=>omega
  case qc6=>simp
  intro L K f b r;have G:Below w w K:=((xW _ w).alloc zL _).grown b (by simp) (by intro k M;simp[Value.ownBlock]at M;omega);clear b r;go_wp2;go_ret;exact⟨L,rfl,f,G,G.size⟩
abbrev En:=ByteArray×Int
def ents (l:List En):List Value:=l.flatMap fun x=>[.string x.1,.int .i64 x.2]
theorem lR (l:List En):(ents l).length=l.length*2:=by
 induction l with
 | nil=>rfl
 | cons x l a=>simp only[ents,xA,zl,yz,xP]at *;omega
theorem fV (a b:List En):ents (a++b)=ents a++ents b:=by simp[ents]
theorem Vv (l:List En) (k:Nat) (b:k<l.length):(ents l)[k*2]?=some (.string l[k].1)/\(ents l)[k*2+1]?=some (.int .i64 l[k].2):=by
 induction l generalizing k with
 | nil=>simp at b
 | cons x l a=>
  cases k with
  | zero=>simp[ents]
  | succ k=>
   have:=a k (by simpa using b);simp only[ents,xA,rk,xj]at this ⊢;rw[show (k+1)*2=k*2+1+1 by omega,show k*2+1+1+1=(k*2+1)+1+1 by omega];simpa using this
def rB (w:World) (v:Value) (l:List En):Prop:=xT w v 2 l.length (ents l)
theorem fD {l:List En} (h:rB w v l) (N:Nat) (f:N=l.length):∃p cp,v=.slice p N cp/\(0<N->∃g o,p=some ⟨g,o,none⟩/\g<w.heap.size/\∀k (hk:k<l.length),w.cell? ⟨g,o+k*2,none⟩=some (.string l[k].1)/\w.cell? ⟨g,o+(k*2+1),none⟩=some (.int .i64 l[k].2)):=by
 subst f;obtain⟨_,⟨b,d,e,rfl⟩|⟨g,o,a,rfl,c⟩⟩:=h
 .exact⟨d,e,by rw[b],fun h=>by omega⟩
 .refine⟨_,a,rfl,fun b=>⟨g,o,rfl,zG (c _ _ (Vv l 0 b).1),fun k hk=>⟨c _ _ (Vv l k hk).1,c _ _ (Vv l k hk).2⟩⟩⟩
theorem LQ (l:List En):∀u∈ents l,u.oneCell'=true:=by intro u a;unfold ents at a;obtain⟨x,_,a⟩:=wU.1 a;simp at a;rcases a with rfl|rfl<;>rfl
theorem Wq: (prog.info? 188).map (fun i=>(i.zero,i.size,i.bytes))=some (some (.agg #[.string {data:=#[]},()]),2,24):=by kernel_rfl
theorem oM: prog.underlying 184=some (.slice 188):=by kernel_rfl
def YC (B:Nat) (l:List En) (w:World) (e:Ending) (w':World):Prop:=∃v,e=.returned v/\w'.ownsRow B 188 2 v l.length (ents l)/\Below B w w'/\w.heap.size<=w'.heap.size
theorem I3 (v:Value) (l:List (ByteArray×Int)) (w:World) (h:xT w v 2 l.length (ents l)) (T:l.length<=1000000):
 Calls prog 202 #[v] w (YC w l w):=by
 obtain⟨O,H,m,p,q⟩:=xp Wq;have Q:=Lib.hid H;have C:=Lib.hid m;have D:=Lib.hid p;have A:=Lib.hid q;clear H m p q;obtain⟨n,e⟩:=zA l.length;obtain⟨a,c,P,B⟩:∃a c,v=.slice a n c/\Hid (∀d,a=some d->∀j u,(ents l)[j]?=some u->w.cell? (d.add j)=some u)/\(a=none->n=0):=by
  obtain⟨S,⟨I,a,c,rfl⟩|⟨g,o,c,rfl,R⟩⟩:=h
  .refine⟨a,c,by rw[e.o,I],fun d _ j u x=>?_,fun _=>by rw[e.o];exact I⟩;have:=(zy.1 x).1;omega
  .refine⟨_,c,by rw[e.o],fun d J j u x=>?_,fun h=>by cases h⟩;cases J;have s:(⟨g,o,none⟩:Addr).add j=⟨g,o+j,none⟩:=(by unfold Addr.add;split<;>simp_all);rw[s];exact R j u x
 obtain⟨B,F⟩:=B;subst P;have i:(ents l).length=n*2:=by rw[lR,<-e.o]
 have t:=Lib.hid i;rw[<-e.o]at T;clear i h;unfold YC;rw[<-e.o];have N:∀(w:World) (a:Option Addr) (n c y z:Nat),(binOp .eql 184 (a,n,c) (.slice none y z)).run prog w=.ok (.bool a.isNone) w:=fun w a n c y z=>r8 w _ _ a n c y z oM;cases a with
 | none=>
  have E:=Lib.hid (F rfl);clear F;go_enter func202,ntmps202;go_wp2;go_ret;exact⟨_,rfl,⟨t.o,zt ⟨rfl,E.o⟩⟩,zB,zL⟩
 | some d=>
  clear F;go_enter func202,ntmps202;go_wp2_with (at_builtin;refine yH _ rfl _ _ 184 rfl w.heap.size 188 O (.agg #[.string {data:=#[]},()]) 2 24 oM Q.o C.o D.o A.o rfl (by decide) _ _ _ rfl (uQ w #[] 0 zL zZ rfl) d n c (ents l) rfl ?qc1 ?qc2 ?qc3 ?qc4 ?qc5 ?qc6 ?_)
  case qc1=>exact t.o
  case qc2 =>intro j u x;have:=B.o d rfl j u x;rw[wk _ _ _ (zG this)];exact this
  case qc3=>exact LQ l
  case qc4=>unfold maxLen;omega
  case qc5=>omega
  case qc6=>simp
  intro L K f b r;have G:Below w w K:=((xW _ w).alloc zL _).grown b (by simp) (by intro k M;simp[Value.ownBlock]at M;omega);clear b r;go_wp2;go_ret;exact⟨L,rfl,f,G,G.size⟩
section
variable {P : Program} {ops : Array Oper} {md : Region.Mode} {C : World->Prop}
def mV (P:Program) (md:Region.Mode) (ops:Array Oper) (C:World->Prop) (n:Nat) (T:Array Bool->Act->Prop):Nat->Array Bool->Act->Prop
 | 0,done,a=>T done a
 | f+1,done,a=>Region.ready md ops done≠[]/\∀i∈Region.ready md ops done,i<n/\qOp P ops C i (mV P md ops C n T f (done.setIfInBounds i true)) a
theorem Ix {n g:Nat} {T:Array Bool->Act->Prop} {Q:Exit->Act->World->Prop} (m:∀done a w,C w->T done a->wpAny P md ops Q g done a w):
 ∀(f:Nat) (done:Array Bool) (a:Act) (w:World),C w->mV P md ops C n T f done a->wpAny P md ops Q (f+g) done a w
 | 0,done,a,w,b,h=>by rw[yL];exact m _ _ _ b h
 | f+1,done,a,w,b,h=>by rw[show f+1+g=(f+g)+1 by omega];exact⟨fun k=>yb k h.1,fun i l=>wpOp_of_qOp b (fun j e c d=>Ix m f _ j e c d) (h.2 i l).2⟩
theorem NC {oi:Oper} {T:Array Bool->Act->Prop} (N:ops[i]?=some oi) (L:∀(j:Nat) (o:Oper) cs b,ops[j]?=some o->o.op≠.select cs b)
 (O:Region.sinkB md ops n=true) (Q:Region.chainB md ops n=true) (R:n<ops.size) (M:i<n) (S:∀done a,T done a->∀j∈Region.ready md ops done,n<=j) (f:Nat):
 ∀(done:Array Bool) (a:Act),HeadInv md ops n done ->
  (∀j oj,ops[j]?=some oj->j≠i->done.getD j true=false->(∀e∈oj.after,Region.binds md e=true->e.on≠i)->oi.apart ops oj=true) ->
  i∈Region.ready md ops done->YieldsIn P ops C oi v a->mV P md ops C n T f (done.setIfInBounds i true) (a.put oi.dst v)->mV P md ops C n T (f+1) done a:=by
 induction f with
 | zero=>
  intro done a g _ s x H;have m:=(pa.1 s).1;refine⟨List.ne_nil_of_mem s,fun j r=>?_⟩;have l:j<n:=Nat.lt_of_not_le fun h=>tail_waits O Q R g _ i rfl M m j h r;refine⟨l,?_⟩;by_cases c:j=i
  .subst c;exact x.qOp N H
  .exact yb (S _ _ H j (ready_mono r c)) (by omega)
 | succ f K=>
  intro done a g d s x H;have m:=(pa.1 s).1;refine⟨List.ne_nil_of_mem s,fun j r=>?_⟩;have l:j<n:=Nat.lt_of_not_le fun h=>tail_waits O Q R g _ i rfl M m j h r;refine⟨l,?_⟩;by_cases c:j=i
  .subst c;exact x.qOp N H
  .obtain⟨p,oj,q,w⟩:=pa.1 r;have y:∀e∈oj.after,Region.binds md e=true->e.on≠i:=fun e J F B=>(by have D:=w e J F;rw[B,getD_both m]at D;cases D);refine qOp_mono (fun I E=>K (done.setIfInBounds j true) I (g.set r l) ?_ (ready_mono s (yF c)) E.1 ?_) (qOp_put q (d j oj q c p y) (fun cs b=>L i oi cs b N) (fun cs b=>L j oj cs b q) x (H.2 j (ready_mono r c)).2)
   .intro k ok G A u z;refine d k ok G A ?_ z;by_cases t:j=k
    .subst t;exact p
    .rw[getD_set_ne true t]at u;exact u
   .rw[Array.setIfInBounds_comm _ _ c];exact E.2
theorem Jy {n g:Nat} {T:Act->Prop} (y:Region.noSelect ops=true) (z:Region.sinkB md ops n=true) (A:Region.chainB md ops n=true) (B:n<ops.size):
 ∀(l:List Oper) (k:Nat) (done:Array Bool) (a:Act),(∀j,j<l.length->l[j]?=ops[k+j]?)->k+l.length=n->HeadInv md ops n done ->
 Region.lexHead md ops g l.length k done=true->wpQuiet P ops C T l a ->
 mV P md ops C n (fun done' a'=>Region.seqB md ops g n done'=true/\T a') l.length done a
 | [],k,done,a,_,f,_,i,h=>by
  obtain rfl:k=n:=by simpa using f
  exact⟨by simpa[Region.lexHead]using i,h⟩
 | o::l,k,done,a,q,f,d,i,h=>by
  have e:ops[k]?=some o:=by simpa using (q 0 (by simp)).symm
  simp only[yz,Region.lexHead,yM]at i;obtain⟨⟨w,t⟩,p⟩:=i;have b:k<n:=by simp only[yz]at f;omega
  have c:k∈Region.ready md ops done:=by simpa using w
  have m:qOp P ops C k (wpQuiet P ops C T l) a:=by unfold qOp;simp only[e];exact h
  obtain⟨v,u,r⟩:=yieldsIn_of_qOp e m;exact NC e (Region.noSelect_spec y) z A B b (fun done' a' s=>seqB_ready s.1) l.length done a d (Region.free_spec e t) c u
   (Jy y z A B l (k+1) _ _ (fun j x=>by have:=q (j+1) (by simp;omega);simpa[yA,Nat.add_comm 1 j]using this) (by simp only[yz]at f;omega) (d.set c b) p r)
theorem fF (n:Nat) (C:P.follows .mixedOrders=true) (hB:Region.lexTailB .any l.toArray n=true)
 (h:wpQuiet P l.toArray (fun w'=>∃p:Regrown,w'=Sort.grow (redrawn w p.d) p.os) (fun a'=>∀w',(∃p:Regrown,w'=Sort.grow (redrawn w p.d) p.os)->wpList P l.toArray Q (l.drop n) a' w') (l.take n) a):(Code.region id l.toArray true).wp P Q a w:=by
 simp only[Region.lexTailB,yM,xo]at hB;obtain⟨⟨⟨⟨k,u⟩,z⟩,A⟩,i⟩:=hB;have y:n<l.length:=by simpa using u
 have b:(l.take n).length=n:=by simp;omega
 have m:(l.drop n).length=l.toArray.size-n:=by simp
 have f:HeadInv .any l.toArray n (Array.replicate l.toArray.size false):=
  ⟨by simp,fun j B _ s=>(by rw[getD_replicate_false]at s;cases s),fun t _ x=>getD_in (by simpa using x) (getD_replicate_false _ _)⟩
 have H:=Jy (md:=.any) (g:=l.toArray.size-n) k z A u (l.take n) 0 _ a (fun j v=>by
  have q:j<n:=by rw[b]at v;exact v
  simp[q]) (by simpa using b) f (by rw[b];exact i) h
 refine wp_region_any C ?_;have c:∃p:Regrown,({w with drawn:=w.drawn+1}:World)=Sort.grow (redrawn w p.d) p.os:=regrown_of_below ⟨rfl,rfl,rfl,zL,fun _ _=>rfl⟩;have:=Ix (Q:=Q) (g:=l.toArray.size-n) (fun e a' w' o r=>by
  have:=wpAny_of_seq (md:=.any) (Q':=Q) (l.drop n) n e a' w' (fun j=>by simp[yo]) (by rw[m];exact r.1) (r.2 w' o)
  rwa [m]at this) _ _ _ _ c H
 rw[b,show n+(l.toArray.size-n)=l.toArray.size by omega]at this;exact this
end
section
variable {P : Program} {l : List Oper}
structure FJ (J:(Nat->Bool)->(Nat->Value)->World->Prop) (m:Nat) (sl:Nat->Nat) (F:Nat->Value->Prop) (old:Nat->Value->Prop) (D:Nat->Bool) (a:Act) (u:World):Prop where
 j:J D (fun i=>a.tmps.getD (sl i) undef) u
 size:a.tmps.size=m
 dfs:a.defers=[]
 old:∀k v,old k v->a.tmps.getD k undef=v
 fact:∀i,D i=true->F i (a.tmps.getD (sl i) undef)
theorem JQ (T:P.follows .mixedOrders=true) (U:gL l=true) (J:(Nat->Bool)->(Nat->Value)->World->Prop) (m:Nat) (I:Nat->Nat) (F:Nat->Value->Prop) (K:Nat->Value->Prop)
 (L:∀i j,i≠j->I i≠I j) (N:∀i k v,K k v->k≠I i)
 (S:(l.zipIdx.all fun p=>p.1.guard.isNone&&p.1.dst==(if I p.2<m then some (I p.2) else none))=true)
 (R:a.tmps.size=m/\a.defers=[]/\(∀k v,K k v->a.tmps.getD k undef=v)/\J (fun _=>false) (fun i=>a.tmps.getD (I i) undef) w.drew)
 (M:∀D a u,FJ J m I F K D a u->∀i o,l[i]?=some o->D i=false->(∀e∈o.after,Region.binds .any e=true->D e.on=true) ->
  o.wp P a u (fun a' u'=>∃v,a'=a.put o.dst v/\(m<=I i->v=undef)/\F i v/\∀g,g i=v->(∀k,k≠i->g k=a.tmps.getD (I k) undef)->J (upd D i) g u') Q)
 (O:∀D a u,FJ J m I F K D a u->(∀i,i<l.length->D i=true)->Q .normal a u):(Code.region id l.toArray true).wp P Q a w:=by
 refine KW T U (FJ J m I F K) ?_ ?_ O
 .exact⟨R.2.2.2,R.1,R.2.1,R.2.2.1,fun i G=>by simp at G⟩
 .intro D a u h i o s B H;have E:i<l.length:=(zy.1 s).1;have z:=yU.1 S (o,i) (by rw[uo];exact s);simp only[yM,vV,vv]at z;obtain⟨A,r⟩:=z;refine VP A (tZ ?_ (M D a u h i o s B H));rintro a' u' ⟨v,rfl,C,x,y⟩;by_cases f:I i<m
  .rw[ze f]at r;rw[r];have q:I i<a.tmps.size:=(by rw[h.size];exact f);have b:(a.put (some (I i)) v).tmps.getD (I i) undef=v:=(by show (a.tmps.setIfInBounds (I i) v).getD (I i) undef=v;simp[xH,q]);have d:∀k,k≠I i->(a.put (some (I i)) v).tmps.getD k undef=a.tmps.getD k undef:=fun k n=>(by show (a.tmps.setIfInBounds (I i) v).getD k undef=_;simp only[xH,yO,zb (yF n)]);refine⟨y _ b fun k n=>d _ (L k i n),?_,h.dfs,fun k v n=>?_,fun j t=>?_⟩
   .show (a.tmps.setIfInBounds (I i) v).size=m;rw[wb];exact h.size
   .rw[d k (N i k v n)];exact h.old k v n
   .by_cases c:j=i
    .subst c;rw[b];exact x
    .rw[d _ (L j i c)];exact h.fact j (mZ t c)
  .rw[zb f]at r;rw[r];obtain rfl:=C (by omega);have b:a.tmps.getD (I i) undef=undef:=(by have:¬I i<a.tmps.size:=(by rw[h.size];exact f);simp only[xH];rw[ya (by omega)];rfl);refine⟨y _ b fun k _=>rfl,h.size,h.dfs,h.old,fun j t=>?_⟩;by_cases c:j=i
   .subst c;show F j (a.tmps.getD (I j) undef);rw[b];exact x
   .exact h.fact j (mZ t c)
end
theorem O4 {g o:Nat} {R A:Array Value} {t:TypeId} {fr:Nat×Nat} (h:w.heap[g]?=some (.cells R t fr)) (c:∀j,j<A.size->R[o+j]?=A[j]?):w.rangeAt g o A.toList:=fun j v b=>by
 have a:j<A.size:=by have:=(zy.1 b).1;simpa using this
 rw[zC h,c j a,<-b,zP]
theorem Zq {l:List Int} (h:vQ w v l):∃p cp,v=.slice p l.length cp/\Hid (0<l.length->∃g o,p=some ⟨g,o,none⟩/\∀(j:Nat) (x:Value),(ints l)[j]?=some x->w.cell? ⟨g,o+j,none⟩=some x):=by
 obtain⟨_,⟨d,b,c,rfl⟩|⟨g,o,a,rfl,e⟩⟩:=h
 .exact⟨b,c,by rw[d],fun h=>by omega⟩
 .exact⟨_,a,rfl,fun _=>⟨g,o,rfl,e⟩⟩
def idxL (l:List Int) (x:Int):Int:=match l.findIdx? (fun y=>y==x) with|some k=>(k:Int)|none=> -1
theorem IZ (v:Value) (l:List Int) (x:Int) (w:World) (h:vQ w v l) (F:l.length<=1000000):
 Calls prog 142 #[v,x] w fun e w'=>e=.returned (.int .i64 (idxL l x))/\w=w':=by
 obtain⟨p,E,rfl,z⟩:=Zq h;obtain⟨N,d⟩:=zD l.length;rw[d.o]at F z;rw[d.o];clear h;go_enter func142,ntmps142;go_wp2
 go_loop [8] (fun i=>∃k:Nat,k<=N/\i=.int .i64 k/\Hid (∀j (b:j<l.length),j<k->l[j]≠x)) (fun i=>N-(intOf i).toNat)
 case atStart=>exact⟨0,ye _,rfl,fun j _ h=>yb h (l6 j)⟩
 case round=>
  obtain⟨k,C,rfl,s⟩:=hrel;by_cases f:k<N
  .obtain⟨g,o,rfl,u⟩:=z.o (by omega);have c:k<l.length:=(by rw[d.o];exact f);have q:=mt l k c;obtain⟨y,n⟩:=zD (l[k]);rw[n.o]at q;have D:=u _ _ q;have t:(k:Int)<(N:Int):=(by omega);clear u q;by_cases a:x=y
   .have m:Hid (idxL l x=(k:Int)):=(by show _=_;unfold idxL;have:l.findIdx? (fun y=>y==x)=some k:=(by rw[xJ];exact⟨c,by rw[n.o,a];simp,fun j b=>by simpa using s.o j (by omega) b⟩);rw[this]);subst a;go_wp2;go_ret;rw[m.o];exact⟨rfl,rfl⟩
   .have r:Hid (∀j (b:j<l.length),j<k+1->l[j]≠x):=fun j b h=>by
     by_cases e:j=k
     .subst e;rw[n.o];exact fun e=>a e.symm
     .exact s.o j b (by omega)
    have B:(x==y)=false:=(by simpa using a);clear a;go_wp2
    go_round
    case rel=>exact⟨k+1,by omega,by go_num,r⟩
    case measure=>simp[intOf];omega
  .have m:Hid (idxL l x = -1):=(by show _=_;unfold idxL;have:l.findIdx? (fun y=>y==x)=none:=(by rw[vW];intro y A;obtain⟨j,b,rfl⟩:=vn A;simpa using s.o j b (by rw[d.o]at b;omega));rw[this]);go_wp2;go_ret;rw[m.o];exact⟨rfl,rfl⟩
theorem I0 (l:List Int) (x:Int):decide (0<=idxL l x)=l.contains x:=by
 unfold idxL;cases h:l.findIdx? fun y=>y==x with
 | none=>
  rw[vW]at h;rw[show decide (0<=(-1:Int))=false from rfl]
  symm
  rw[<-tw];intro c;have:=h x (by simpa using c);simp at this
 | some k=>
  rw[xJ]at h;obtain⟨b,a,_⟩:=h;rw[yf (show (0:Int)<=(k:Int) by omega)]
  symm
  simp only[ur,vv]at *
  rw[<-a];exact zz b
theorem IW (v:Value) (l:List Int) (x:Int) (w:World) (h:vQ w v l) (m:l.length<=1000000):
 Calls prog 103 #[v,x] w fun e w'=>e=.returned (.bool (l.contains x))/\w=w':=by
 have g:=Lib.hid (IZ v l x w h m);obtain⟨p,j,rfl,_⟩:=Zq h;have f:=Lib.hid (I0 l x);have d: -1<=idxL l x/\idxL l x<=1000000:=by
  unfold idxL;cases a:l.findIdx? fun y=>y==x with
  | none=>exact⟨by simp,by simp⟩
  | some k=>
   rw[xJ]at a;obtain⟨i,_⟩:=a;exact⟨by show (-1:Int)<=(k:Int);omega,by show (k:Int)<=1000000;omega⟩
 obtain⟨c,b⟩:=d;clear h m;generalize idxL l x=q at *
 go_enter func103,ntmps103
 go_wp2_with fail
 refine g.o.mono ?_;rintro e w' ⟨rfl,rfl⟩;go_wp2;go_ret;rw[<-f.o];exact⟨rfl,rfl⟩
theorem Ud {B:Nat} {a:World} (h:Below B a w) (n:Nat):Below B a (w.drewN n):=⟨h.os,h.tape,h.output,h.size,h.block⟩
def lF (a b:List Int):Bool:=decide (a=b)
theorem IV (u v:Value) (a b:List Int) (w:World) (h1:vC w u a) (h2:vC w v b) (aa:a.length=b.length) (hl:a.length<=1000000):
 Calls prog 49 #[u,v] w fun e w'=>e=.returned (.bool (lF a b))/\Below w w w':=by
 obtain⟨N,t⟩:=zA a.length;have m:Hid (N=b.length):=by rw[t.o];exact aa
 obtain⟨p,B,Q,S⟩:∃p B,u=.slice p N B/\Hid (0<N->∃g o,p=some ⟨g,o,none⟩/\∀(j:Nat) (x:Value),(u8s a)[j]?=some x->w.cell? ⟨g,o+j,none⟩=some x):=by
  rw[t.o];obtain⟨_,⟨C,J,K,rfl⟩|⟨g,o,l,rfl,n⟩⟩:=h1
  .exact⟨J,K,by rw[C],fun h=>by omega⟩
  .exact⟨_,l,rfl,fun _=>⟨g,o,rfl,n⟩⟩
 obtain⟨q,cq,R,O⟩:∃p B,v=.slice p N B/\Hid (0<N->∃g o,p=some ⟨g,o,none⟩/\∀(j:Nat) (x:Value),(u8s b)[j]?=some x->w.cell? ⟨g,o+j,none⟩=some x):=by
  rw[m.o];obtain⟨_,⟨C,J,K,rfl⟩|⟨g,o,l,rfl,n⟩⟩:=h2
  .exact⟨J,K,by rw[C],fun h=>by omega⟩
  .exact⟨_,l,rfl,fun _=>⟨g,o,rfl,n⟩⟩
 subst Q R;rw[<-t.o]at hl;clear h1 h2 aa;go_enter func49,ntmps49;go_wp2;go_loopw [13] (fun i wr=>∃k:Nat,k<=N/\i=.int .i64 k/\Hid (a.take k=b.take k)/\Below w w wr) (fun i _=>N-(intOf i).toNat);case atStart=>exact⟨0,ye _,rfl,rfl,zB⟩
 case round=>
  obtain⟨k,V,rfl,M,A⟩:=hrel;by_cases r:k<N
  .obtain⟨g,o,rfl,n⟩:=S.o (by omega);obtain⟨X,o',rfl,f⟩:=O.o (by omega);have s:k<a.length:=(by rw[<-t.o];exact r);have z:k<b.length:=(by rw[<-m.o];exact r);have F:=sJ a k s;have E:=sJ b k z;obtain⟨x,I⟩:=zA (a[k]);obtain⟨y,H⟩:=zA (b[k]);rw[<-I.out]at F;rw[<-H.out]at E;have d:∀{x:Addr} {y:Value},w.cell? x=some y->wr.cell? x=some y:=fun h=>(A.cell (zG h)).trans h;have Z:=d (n _ _ F);have W:=d (f _ _ E);have Y:=Lib.hid n;have P:=Lib.hid f;clear n f F E d;have L:(k:Int)<(N:Int):=(by omega);by_cases c:x=y
   .have G:Hid (a.take (k+1)=b.take (k+1)):=(by show _=_;rw[<-zY s,<-zY z,M.o,<-I.out,<-H.out,c]);subst c;go_wp2
    go_quiet (fail)
    go_wp2;go_roundw;case rel=>exact⟨k+1,by omega,by go_num,G,Ud A _⟩
    case measure=>simp[intOf];omega
   .have D:Hid (lF a b=false):=(by show _=_;unfold lF;rw[zJ];intro e;apply c;rw[I.out,H.out];subst e;rfl);have U:(x==y)=false:=(by simpa using c);have b2:(x != y)=true:=(by simpa using c);have T:=Lib.hid c;clear c;go_wp2
    go_quiet (fail)
    go_wp2;go_ret;rw[D.o];exact⟨rfl,Ud A _⟩
  .have D:Hid (lF a b=true):=(by show _=_;unfold lF;rw[yJ];have:=M.o;rw[zv (by rw[<-t.o];omega),zv (by rw[<-m.o];omega)]at this;exact this);go_wp2;go_ret;rw[D.o];exact⟨rfl,A⟩
