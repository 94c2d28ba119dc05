import Derived.Test.YtmanoiagchpelaaGreatDoorKA2
import Derived.BigQuiet
import Derived.Lib.QuietBelow
import Derived.Laws.Tables
import Derived.Test.YtmanoiagchpelaaGreatDoorProg
import Derived.Lib.SliceRun
import Derived.OwnWalk
import Derived.Laws.AppendOwn
import Derived.StillTail
import Derived.Deep.MidRow
import Derived.LoopTactic
import Derived.IntWalk
import Derived.Deep.QuietTactic
set_option maxHeartbeats 0
set_option linter.all false
set_option maxRecDepth 100000
namespace Go.Proofs.YtmanoiagchpelaaGreatDoor
open Go.Proofs.Tryz Go.RowKit
variable {Q:Exit->Act->World->Prop} {a:Act} {i id n:Nat} {l:List Oper} {o:Oper} {v:Value} {w w':World}
abbrev kr:=@results100
abbrev lI:=@func80
abbrev nO:=@underlying56
abbrev nP:=@ntmps80
abbrev qI:=@func43
abbrev qh:=@Lib.run_eql_slice_nil
abbrev rR:=@ntmps43
abbrev rZ:=@results110
abbrev tD:=@BigFrame.wpQuiet_want
abbrev uu:=@results144
abbrev ve:=@wpQuiet_nil
abbrev wQ:=@wp_region_quiet_below
abbrev xA:=@cell_regrown
theorem sF (h:∃p:Regrown,w'=Sort.grow (redrawn w p.d) p.os):Below w w w':=by obtain⟨p,rfl⟩:=h;exact below_regrown w p.d p.os
theorem Zv (h:∃p:Regrown,w'=Sort.grow (redrawn w p.d) p.os) {o:Obj} (a:w.heap[i]?=some o):w'.heap[i]?=some o:=wy (sF h) a
theorem qu {w'':World} (h:∃p:Regrown,w'=Sort.grow (redrawn w p.d) p.os) (a:Below w' w' w''):∃p:Regrown,w''=Sort.grow (redrawn w p.d) p.os:=
 regrown_of_below (zf (sF h) a)
section
variable {P : Program}
theorem Gu {o:Oper} {a:Act} {C:World->Prop} {K:Act->Prop} (ty) (x) (ho:o.op=.load ty x)
 (g) (hx:a.eval x=.pointer (some ⟨g,0,none⟩)) (t) (cs) (fr) (d) (hg:∀w,C w->w.heap[g]?=some (.cells cs t fr))
 (hu:P.underlying ty=some d) (hd:(match d with|.struct _|.array _ _=>true|_=>false)=true) (hi:(P.info? ty).map (·.size)=some cs.size)
 (h:K (a.put o.dst (.agg cs))):o.quiet P a C K:=
 ⟨.agg cs,fun w b=>by unfold Oper.quietAt execOp;simp only[ho,hx,Instr.loadAt,Instr.sureAddr,xO,uJ,xe,kf w g t ty cs fr d (hg w b) hu hd hi];exact⟨rfl,rfl⟩,h⟩
theorem Gj {ops:Array Oper} {Q:Act->Prop} {rest:List Oper} {o:Oper} {a:Act} {C:World->Prop} (hw:Region.wanted o (yielded ops a.tmps)=true) (ty) (x) (ho:o.op=.load ty x)
 (g) (hx:a.eval x=.pointer (some ⟨g,0,none⟩)) (t) (cs) (fr) (d) (hg:∀w,C w->w.heap[g]?=some (.cells cs t fr))
 (hu:P.underlying ty=some d) (hd:(match d with|.struct _|.array _ _=>true|_=>false)=true) (hi:(P.info? ty).map (·.size)=some cs.size)
 (h:wpQuiet P ops C Q rest (a.put o.dst (.agg cs))):wpQuiet P ops C Q (o::rest) a:=
 tD hw fun _ b=>Gu ty x ho g hx t cs fr d hg hu hd hi (b _ h)
theorem qE {ops:Array Oper} {Q:Act->Prop} {rest:List Oper} {C:World->Prop} (f) (xs) (ats) (p:o.op=.call {callee:=.value (.func f),args:=xs,argTypes:=ats})
 (q:Region.wanted o (yielded ops a.tmps)=true) (r:∀args w,(callFunc f args).run P w=.ok (.enter f args) w) (args) (n:#[]++xs.map a.eval++#[]=args) (v)
 (s:∀w' w'',C w'->Below w' w' w''->C w'') (t:∀w',C w'->Calls P f args w' fun e w''=>e=.returned v/\Below w' w' w'') (h:wpQuiet P ops C Q rest (a.put o.dst v)):wpQuiet P ops C Q (o::rest) a:=
 tD q fun _ j=>⟨v,fun w' b=>by
  have e:execOp a.eval o=callFunc f (#[]++xs.map a.eval++#[]):=by obtain⟨g,l,m,pos,c,d⟩:=o;simp only at p;subst p;rfl
  unfold Oper.quietAt;rw[e,n,r];exact⟨rfl,(t w' b).mono fun _ _ ⟨i,k⟩=>⟨i,s _ _ b k⟩⟩,j _ h⟩
end
section
variable {P : Program} {l : List Oper}
structure FI (St:World->World->Prop) (m:Nat) (sl:Nat->Nat) (F:Nat->Value->World->Prop) (pr:Nat->Nat->Prop) (old:Nat->Value->Prop) (w0:World) (D:Nat->Bool) (a:Act) (u:World):Prop where
 b:St w0 u
 size:a.tmps.size=m
 dfs:a.defers=[]
 old:∀k v,old k v->a.tmps.getD k undef=v
 fact:∀i,D i=true->F i (a.tmps.getD (sl i) undef) u
 ne:∀i j,pr i j->D i=true->D j=true->a.tmps.getD (sl i) undef≠a.tmps.getD (sl j) undef
theorem Gz (hm:P.follows .mixedOrders=true) (hr:fY l=true) (St) (W:St w w.drew) (X:∀u u',St w u->St u u'->St w u') (m) (O:Nat->Nat) (F) (pr) (old)
 (Y:∀j v u u',St u u'->F j v u->F j v u') (S:∀i j,pr i j->pr j i/\i≠j) (R:∀i j,i≠j->O i≠O j) (U:∀i k v,old k v->k≠O i)
 (Z:(l.zipIdx.all fun p=>p.1.guard.isNone&&p.1.dst==some (O p.2)&&decide (O p.2<m))=true)
 (h0:a.tmps.size=m/\a.defers=[]/\∀k v,old k v->a.tmps.getD k undef=v)
 (T:∀D a u,FI St m O F pr old w D a u->∀i o,l[i]?=some o->D i=false->(∀e∈o.after,Region.binds .any e=true->D e.on=true) ->
  o.wp P a u (fun a' u'=>∃v,a'=a.put o.dst v/\St u u'/\F i v u'/\∀j,pr i j->D j=true->v≠a.tmps.getD (O j) undef) Q)
 (V:∀D a u,FI St m O F pr old w D a u->(∀i,i<l.length->D i=true)->Q .normal a u):(Code.region id l.toArray true).wp P Q a w:=by
 refine Jr hm hr (FI St m O F pr old w) ?_ ?_ V
 .exact⟨W,h0.1,h0.2.1,h0.2.2,fun i B=>by simp at B,fun i j _ B=>by simp at B⟩
 .intro D a u h i o z I M;have K:=(zJ.1 z).1;have N:l[i]=o:=(zJ.1 z).2;have E:=yW.1 Z (o,i) (by rw[uv];exact z);simp only[yL,vU,vx,xw]at E;obtain⟨⟨H,G⟩,A⟩:=E;refine UG H (sj ?_ (T D a u h i o z I M));rintro a' u' ⟨v,rfl,C,J,t⟩;rw[G];have y:O i<a.tmps.size:=by rw[h.size];exact A
  have f:(a.put (some (O i)) v).tmps.getD (O i) undef=v:=by show (a.tmps.setIfInBounds (O i) v).getD (O i) undef=v;simp[xN,y]
  have c:∀k,k≠O i->(a.put (some (O i)) v).tmps.getD k undef=a.tmps.getD k undef:=fun k r=>by show (a.tmps.setIfInBounds (O i) v).getD k undef=_;simp only[xN,yM,zb (yA r)]
  have g:∀j,upd D i j=true->j≠i->D j=true:=fun j s L=>lh s L;refine⟨X _ _ h.b C,?_,h.dfs,fun k v r=>?_,fun j s=>?_,fun j k n s r=>?_⟩
  .show (a.tmps.setIfInBounds (O i) v).size=m;rw[wk];exact h.size
  .rw[c k (U i k v r)];exact h.old k v r
  .by_cases d:j=i
   .subst d;rw[f];exact J
   .rw[c _ (R j i d)];exact Y _ _ _ _ C (h.fact j (g j s d))
  .by_cases d:j=i
   .subst d;have x:=yA (S j k n).2;rw[f,c _ (R k j x)];exact t k n (g k r x)
   .by_cases q:k=i
    .subst q;rw[f,c _ (R j k d)];exact yA (t j (S j k n).1 (g j s d))
    .rw[c _ (R j i d),c _ (R k i q)];exact h.ne j k n (g j s d) (g k r q)
def kJ (l:List Oper) (j k:Nat):Bool:=match l[j]? with|some o=>o.after.any fun e=>Region.binds .any e&&(e.on==k)|none=>false
def kR (l:List Oper) (n:Nat):List Nat:=(List.range n).reverse.foldl (fun R k=>if R.any (fun j=>kJ l j k) then k::R else R) [n]
def io (l:List Oper) (n:Nat):Bool:=(l.length==n+1)&&(match l[n]? with|some o=>o.guard.isNone|none=>false)&&((List.range n).all fun i=>(kR l n).contains i)
theorem NO {D:Nat->Bool} (x:l[n]?=some o) (y:∀e∈o.after,Region.binds .any e=true->D e.on=true) (w:∀k o,l[k]?=some o->D k=true->∀e∈o.after,Region.binds .any e=true->D e.on=true):∀k∈kR l n,k≠n->D k=true:=by
 unfold kR;have p:∀(m:List Nat) (R),(∀k∈R,k≠n->D k=true)->∀k∈m.foldl (fun R k=>if R.any (fun j=>kJ l j k) then k::R else R) R,k≠n->D k=true:=by
  intro m
  induction m with
  | nil=>intro R h;exact h
  | cons c m u=>
   intro R h;rw[wl];refine u _ fun k d b=>?_;by_cases r:R.any (fun j=>kJ l j c)=true
   .rw[ze r]at d;rcases yD.1 d with rfl|d
    .obtain⟨j,t,i⟩:=wb.1 r;unfold kJ at i;cases a:l[j]? with
     | none=>rw[a]at i;cases i
     | some v=>
      rw[a]at i;obtain⟨q,s,f⟩:=Array.any_eq_true.1 i;simp only[yL,vx]at f;rw[<-f.2];by_cases g:j=n
      .subst g;rw[x]at a;injection a with a;subst a;exact y _ (Array.getElem_mem s) f.1
      .exact w j v a (h j t g) _ (Array.getElem_mem s) f.1
    .exact h k d b
   .rw[zb r]at d;exact h k d b
 exact p _ [n] (fun k d b=>by simp at d;exact zY d b)
theorem Gf (hm:P.follows .mixedOrders=true) (hr:fY l=true) (St) (al:St w w.drew) (am:∀u u',St w u->St u u'->St w u') (m) (sl:Nat->Nat) (F) (pr) (old)
 (an:∀j v u u',St u u'->F j v u->F j v u') (af:∀i j,pr i j->pr j i/\i≠j) (ae:∀i j,i≠j->sl i≠sl j) (ah:∀i k v,old k v->k≠sl i)
 (n) (aa:io l n=true)
 (ao:((l.take n).zipIdx.all fun p=>p.1.guard.isNone&&p.1.dst==some (sl p.2)&&decide (sl p.2<m))=true)
 (h0:a.tmps.size=m/\a.defers=[]/\∀k v,old k v->a.tmps.getD k undef=v)
 (ag:∀D a u,FI St m sl F pr old w D a u->∀i o,i<n->l[i]?=some o->D i=false->(∀e∈o.after,Region.binds .any e=true->D e.on=true) ->
  o.wp P a u (fun a' u'=>∃v,a'=a.put o.dst v/\St u u'/\F i v u'/\∀j,pr i j->D j=true->v≠a.tmps.getD (sl j) undef) Q)
 (aj:∀D a u,FI St m sl F pr old w D a u->(∀i,i<n->D i=true)->∀o,l[n]?=some o->o.wp P a u (fun a' u'=>Q .normal a' u') Q):(Code.region id l.toArray true).wp P Q a w:=by
 unfold io at aa;simp only[yL,vx]at aa;obtain⟨⟨ab,aa⟩,A⟩:=aa;obtain⟨oz,C⟩:∃o,l[n]?=some o:=⟨l[n]' (by omega),zh (by omega)⟩;rw[C]at aa;have Y:oz.guard=none:=by simpa using aa
 have T:∀i,i<n->i∈kR l n:=fun i R=>by have:=yW.1 A i (yH.2 R);simpa using this
 refine Jr hm hr (fun D a u=>(∀k o,l[k]?=some o->D k=true->∀e∈o.after,Region.binds .any e=true->D e.on=true)/\((D n=false/\FI St m sl F pr old w D a u)\/(D n=true/\(∀i,i<n->D i=true)/\Q .normal a u))) ?_ ?_ ?_
 .exact⟨fun k o _ f=>by simp at f,zr ⟨rfl,al,h0.1,h0.2.1,h0.2.2,fun i R=>by simp at R,fun i j _ R=>by simp at R⟩⟩
 .intro D a u N i o G L ha;obtain⟨U,N⟩:=N;have E:∀k o,l[k]?=some o->upd D i k=true->∀e∈o.after,Region.binds .any e=true->upd D i e.on=true:=fun k ok f X e he K=>by
   have M:∀r,D r=true->upd D i r=true:=fun r hr=>(by simp[upd,hr]);by_cases q:k=i
   .subst q;rw[G]at f;injection f with f;subst f;exact M _ (ha e he K)
   .exact M _ (U k ok f (lh X q) e he K)
  have ai:=(zJ.1 G).1;rcases N with⟨s,h⟩|⟨s,Z,_⟩
  .by_cases B:i=n
   .subst B;rw[C]at G;injection G with G;subst G;have t:∀j,j<i->D j=true:=fun j y=>NO C ha U j (T j y) (by omega);refine UG Y (sj ?_ (aj D a u h t oz C));intro a' u' W;exact⟨E,zu ⟨Vs D i,fun j y=>by rw[qy (by omega)];exact t j y,W⟩⟩
   .have H:i<n:=(by omega);have hP:=yW.1 ao (o,i) (by rw[uv];show (l.take n)[i]?=some o;rw[zI,ze H];exact G);simp only[yL,vU,vx,xw]at hP;obtain⟨⟨hg,hd⟩,V⟩:=hP;refine UG hg (sj ?_ (ag D a u h i o H G L ha));rintro a' u' ⟨v,rfl,K,hF,J⟩;refine⟨E,zr ⟨by rw[qy (yA B)];exact s,?_⟩⟩;rw[hd];have S:sl i<a.tmps.size:=(by rw[h.size];exact V);have g:(a.put (some (sl i)) v).tmps.getD (sl i) undef=v:=(by show (a.tmps.setIfInBounds (sl i) v).getD (sl i) undef=v;simp[xN,S]);have c:∀k,k≠sl i->(a.put (some (sl i)) v).tmps.getD k undef=a.tmps.getD k undef:=fun k f=>(by show (a.tmps.setIfInBounds (sl i) v).getD k undef=_;simp only[xN,yM,zb (yA f)]);have x:∀j,upd D i j=true->j≠i->D j=true:=fun j y hn=>lh y hn;refine⟨am _ _ h.b K,?_,h.dfs,fun k v f=>?_,fun j y=>?_,fun j k z y f=>?_⟩
    .show (a.tmps.setIfInBounds (sl i) v).size=m;rw[wk];exact h.size
    .rw[c k (ah i k v f)];exact h.old k v f
    .by_cases d:j=i
     .subst d;rw[g];exact hF
     .rw[c _ (ae j i d)];exact an _ _ _ _ K (h.fact j (x j y d))
    .by_cases d:j=i
     .subst d;have O:=yA (af j k z).2;rw[g,c _ (ae k j O)];exact J k z (x k f O)
     .by_cases q:k=i
      .subst q;rw[g,c _ (ae j k d)];exact yA (J j (af j k z).1 (x j y d))
      .rw[c _ (ae j i d),c _ (ae k i q)];exact h.ne j k z (x j y d) (x k f q)
  .exfalso;by_cases B:i=n
   .subst B;rw[s]at L;cases L
   .have:=Z i (by omega);rw[this]at L;cases L
 .intro D a u N I;rcases N.2 with⟨s,_⟩|⟨_,_,W⟩
  .have:=I n (by omega);rw[this]at s;cases s
  .exact W
end
section
variable {P : Program} {o : Oper} {a : Act} {w : World} {K : Act->World->Prop} {Q : Exit->Act->World->Prop}
theorem sV (h:(execOp a.eval o).run P w=.ok (.value v) w') (b:K (a.put o.dst v) w'):o.wp P a w K Q:=by unfold Oper.wp;rw[h];exact b
theorem JC (h:(execOp a.eval o).run P w=.ok .skip w') (b:K (a.put o.dst undef) w'):o.wp P a w K Q:=by unfold Oper.wp;rw[h];exact b
theorem mw (x) (b:o.op=.nilCheck x) (p) (c:a.eval x=.pointer (some p)) (d:K (a.put o.dst (.pointer (some p))) w):o.wp P a w K Q:=
 sV (v:=.pointer (some p)) (w':=w) (by unfold execOp;simp only[b];rw[c];rfl) d
theorem Ip (t) (xs) (b:o.op=.build t xs) (parts) (c:xs.map (fun p=>(p.1,a.eval p.2))=parts) (cells) (d:P.built t parts.toList=some cells)
 (e:K (a.put o.dst (.agg cells)) w):o.wp P a w K Q:=
 sV (v:=.agg cells) (w':=w) (by unfold execOp;simp only[b];rw[c];simp[run_build w t parts cells d]) e
theorem Wh (t) (x) (b:o.op=.box t x) (R) (c:a.eval x=.agg R) (d:K (a.put o.dst (w.heap.size,())) (w.alloc (.cells R t))):o.wp P a w K Q:=
 sV (v:=.pointer (some ⟨w.heap.size,0,none⟩)) (w':=w.alloc (.cells R t)) (by unfold execOp;simp only[b,c,Instr.box,newVar,xO];rfl) d
theorem Hk (t) (b:o.op=.makeMap t none) (c:K (a.put o.dst (.map (some w.heap.size))) (w.alloc (.map #[] 0))):o.wp P a w K Q:=
 sV (v:=.map (some w.heap.size)) (w':=w.alloc (.map #[] 0)) (by unfold execOp;simp only[b];rfl) c
theorem jn (f) (xs) (ats) (m:o.op=.call {callee:=.value (.func f),args:=xs,argTypes:=ats})
 (n:∀args w,(callFunc f args).run P w=.ok (.enter f args) w) (args) (l:#[]++xs.map a.eval++#[]=args) (R:Value->World->Prop)
 (p:Calls P f args w fun e w'=>∃v,e=.returned v/\R v w') (h:∀v w',R v w'->K (a.put o.dst v) w'):o.wp P a w K Q:=by
 have e:execOp a.eval o=callFunc f (#[]++xs.map a.eval++#[]):=by obtain⟨d,j,k,pos,b,c⟩:=o;simp only at m;subst m;rfl
 unfold Oper.wp;rw[e,l,n];exact p.mono fun e w' ⟨v,g,i⟩=>by subst g;exact h v w' i
end
def n8 (cs:Array Value) (off:Nat) (vs:Array Value):Array Value:=vs.zipIdx.foldl (fun cs p=>cs.setIfInBounds (off+p.2) p.1) cs
theorem KP (off):∀(l:List Value) (n) (cs:Array Value),((l.zipIdx n).foldl (fun cs p=>cs.setIfInBounds (off+p.2) p.1) cs).size=cs.size /\
 (off+n+l.length<=cs.size->∀i,((l.zipIdx n).foldl (fun cs p=>cs.setIfInBounds (off+p.2) p.1) cs)[i]?=if off+n<=i/\i<off+n+l.length then l[i-(off+n)]? else cs[i]?)
 | [],n,cs=>⟨rfl,fun _ i=>by rw[zb (by simp)];rfl⟩
 | v::l,n,cs=>by
  rw[List.zipIdx_cons,wl];obtain⟨c,a⟩:=KP off l (n+1) (cs.setIfInBounds (off+n) v);rw[wk]at c a;refine⟨c,fun e i=>?_⟩;rw[yx]at e;rw[a (by omega) i,yM];rw[yx];by_cases b:off+(n+1)<=i/\i<off+(n+1)+l.length
  .rw[ze b,ze (by omega),show i-(off+n)=(i-(off+(n+1)))+1 by omega,zl]
  .rw[zb b];by_cases d:off+n=i
   .subst d;rw[ze rfl,ze (by omega),ze (by omega),uM];rfl
   .rw[zb d,zb (by omega)]
theorem NQ (cs) (off) (vs):(n8 cs off vs).size=cs.size:=by unfold n8;rw[<-Array.foldl_toList,Array.toList_zipIdx];exact (KP off vs.toList 0 cs).1
theorem PM (cs) (off) (vs) (h:off+vs.size<=cs.size) (i):(n8 cs off vs)[i]?=if off<=i/\i<off+vs.size then vs[i-off]? else cs[i]? :=by unfold n8;rw[<-Array.foldl_toList,Array.toList_zipIdx];have:=(KP off vs.toList 0 cs).2 (by simpa using h) i;rw[this];simp
theorem Qz {place:Nat->Option (Nat×Nat)} {cells:Array Value} {rest:List (Nat×Value)} (off size) (a:place i=some (off,size)) (b:v.cells.size=size) (c:off+size<=cells.size):
 Instr.fill place cells ((i,v)::rest)=Instr.fill place (n8 cells off v.cells) rest:=by
 rw[Instr.fill,a];simp only;rw[zb (by simp[b];omega)];rfl
theorem OM (n) (b:Act) (e:b.tmps.size=n) (f:b.defers=[]):b=⟨((List.range n).map fun k=>b.tmps.getD k undef).toArray,[]⟩:=by
 obtain⟨t,d⟩:=b;simp only at e f;subst f
 congr 1
 apply Array.ext
 .simp[e]
 .intro i a c;simp[a]
def slS (S:List Nat) (n m i:Nat):Nat:=if i<n then S.getD i 0 else m+i
theorem OL (w b:Act) (S:List Nat) (f:Nat->Value) (y:∀k,b.tmps.getD k undef=f k) (z:b.tmps.size=w.tmps.size) (B:b.defers=[]) (x:∀k,k<w.tmps.size->k∉S->b.tmps.getD k undef=w.tmps.getD k undef):
 b=⟨S.foldl (fun t k=>t.setIfInBounds k (f k)) w.tmps,[]⟩:=by
 obtain⟨t,d⟩:=b;simp only at y z B x;subst B;have n:∀(S:List Nat) (j:Array Value),j.size=w.tmps.size->(S.foldl (fun t k=>t.setIfInBounds k (f k)) j).size=w.tmps.size/\∀k,k<w.tmps.size->(S.foldl (fun t k=>t.setIfInBounds k (f k)) j).getD k undef=if k∈S then f k else j.getD k undef:=by
  intro S
  induction S with
  | nil=>intro j l;exact⟨l,fun k _=>by simp⟩
  | cons c S v=>
   intro j l;rw[wl];obtain⟨o,m⟩:=v (j.setIfInBounds c (f c)) (by rw[wk];exact l);refine⟨o,fun k p=>?_⟩;rw[m k p];by_cases a:k∈S
   .rw[ze a,ze (yZ _ a)]
   .rw[zb a];by_cases g:k=c
    .subst g;rw[ze xn];simp[xN,l,p]
    .rw[zb (by simp[g,a])];simp only[xN,yM,zb (yA g)]
 obtain⟨u,s⟩:=n S w.tmps rfl;have q:∀(A:Array Value) (i) (h),A[i]=A.getD i undef:=fun A i h=>by simp[h]
 congr 1
 apply Array.ext
 .rw[u,z]
 .intro i o m;have r:i<w.tmps.size:=by omega
  rw[q _ i o,q _ i m,s i r];by_cases e:i∈S
  .rw[ze e];exact y i
  .rw[zb e];exact x i r e
theorem Gy {P:Program} (hm:P.follows .mixedOrders=true) (hr:fY l=true) (St) (X:St w w.drew) (Y:∀u u',St w u->St u u'->St w u') (m) (S:List Nat) (F)
 (Z:∀j v u u',St u u'->F j v u->F j v u') (n) (T:io l n=true)
 (hS:((S.length==n)&&S.all (fun k=>decide (k<m))&&decide S.Nodup&&((l.take n).zipIdx.all fun p=>p.1.guard.isNone&&p.1.dst==some (S.getD p.2 0)))=true)
 (W:a.tmps.size=m/\a.defers=[])
 (U:∀D b u,FI St m (slS S n m) F (fun _ _=>False) (fun k v=>k<m/\k∉S/\a.tmps.getD k undef=v) w D b u->∀i o,i<n->l[i]?=some o->D i=false->(∀e∈o.after,Region.binds .any e=true->D e.on=true) ->
  o.wp P b u (fun a' u'=>∃v,a'=b.put o.dst v/\St u u'/\F i v u') Q)
 (V:∀D b u,FI St m (slS S n m) F (fun _ _=>False) (fun k v=>k<m/\k∉S/\a.tmps.getD k undef=v) w D b u->(∀i,i<n->D i=true)->∀o,l[n]?=some o->∀f:Nat->Value,(∀k,b.tmps.getD k undef=f k)->b=⟨S.foldl (fun t k=>t.setIfInBounds k (f k)) a.tmps,[]⟩ ->
  o.wp P b u (fun a' u'=>Q .normal a' u') Q):(Code.region id l.toArray true).wp P Q a w:=by
 simp only[yL,vx,xw]at hS;obtain⟨⟨⟨L,G⟩,z⟩,y⟩:=hS;have g:∀i,i<n->S.getD i 0<m:=fun i d=>by
  have c:i<S.length:=by omega
  have:=yW.1 G S[i] (zx c);rw[zi,zh c];simpa using this
 have E:∀i,i<n->S.getD i 0∈S:=fun i d=>by
  have c:i<S.length:=by omega
  rw[zi,zh c];exact zx c
 refine Gf hm hr St X Y m (slS S n m) F (fun _ _=>False) (fun k v=>k<m/\k∉S/\a.tmps.getD k undef=v) Z (fun _ _ h=>h.elim) (fun i j J=>?_) (fun i k v x=>?_) n T ?_ ⟨W.1,W.2,fun k v x=>x.2.2⟩ (fun D b u q i o d K O R=>sj ?_ (U D b u q i o d K O R)) (fun D b u q C o K=>V D b u q C o K _ (fun _=>rfl) (OL a b S _ (fun _=>rfl) (by rw[q.size,W.1]) q.dfs fun k x I=>q.old k _ ⟨by rw[<-W.1];exact x,I,rfl⟩))
 .unfold slS;by_cases d:i<n
  .by_cases r:j<n
   .rw[ze d,ze r];intro h;have c:i<S.length:=(by omega);have s:j<S.length:=(by omega);rw[zi,zh c,zi,zh s]at h;rcases Nat.lt_or_gt_of_ne J with A|A
    .exact xZ.1 z i j c s A h
    .exact xZ.1 z j i s c A h.symm
   .rw[ze d,zb r];have:=g i d;omega
  .by_cases r:j<n
   .rw[zb d,ze r];have:=g j r;omega
   .rw[zb d,zb r];omega
 .obtain⟨N,H,_⟩:=x;unfold slS;by_cases d:i<n
  .rw[ze d];intro h;exact H (h▸E i d)
  .rw[zb d];omega
 .rw[yW]at y ⊢;intro p M;have:=y p M;simp only[yL,vU,vx]at this;have B:p.2<n:=by have c:=uv.1 M;have:=(zJ.1 c).1;rw[zj]at this;omega
  have e:slS S n m p.2=S.getD p.2 0:=by unfold slS;rw[ze B]
  simp only[e,yL,vU,vx,xw];exact⟨this,g _ B⟩
 .rintro a' u' ⟨v,c,s,A⟩;exact⟨v,c,s,A,fun _ h=>h.elim⟩
theorem jP: (prog.info? 3).map (fun i=>(i.zero,i.size,i.bytes))=some (some (.int .i64 0),1,8):=by kernel_rfl
theorem lB: prog.underlying 33=some (.slice 3):=by kernel_rfl
theorem Oq (l):∀u∈ints l,u.oneCell'=true:=by intro u a;simp only[ints,zU]at a;obtain⟨x,_,rfl⟩:=a;rfl
def gJ (B:Nat) (l:List Int) (w:World) (e:Ending) (w':World):Prop:=∃v,e=.returned v/\w'.ownsRow B 3 1 v l.length (ints l)/\Below B w w'/\w.heap.size<=w'.heap.size
theorem U4 (v) (l) (w) (h:vT w v l) (T:l.length<=1000000):
 Calls prog 86 #[v] w (gJ w l w):=by
 obtain⟨N,H,m,p,q⟩:=xy jP;have P:=za H;have C:=za m;have D:=za p;have A:=za q;clear H m p q;obtain⟨n,e⟩:=zA l.length;obtain⟨a,c,O,B⟩:∃a c,v=.slice a n c/\Hid (∀d,a=some d->∀j u,(ints l)[j]?=some u->w.cell? (d.add j)=some u)/\(a=none->n=0):=by
  obtain⟨S,⟨I,a,c,rfl⟩|⟨g,o,c,rfl,Q⟩⟩:=h
  .refine⟨a,c,by rw[e.o,I],fun d _ j u x=>?_,fun _=>by rw[e.o];exact I⟩;have:=(zJ.1 x).1;omega
  .refine⟨_,c,by rw[e.o],fun d J j u x=>?_,fun h=>by cases h⟩;cases J;have s:(⟨g,o,none⟩:Addr).add j=⟨g,o+j,none⟩:=(by unfold Addr.add;split<;>simp_all);rw[s];exact Q j u x
 obtain⟨B,F⟩:=B;subst O;have i:(ints l).length=n*1:=by rw[uq,e.o];simp[ints]
 have t:=za i;rw[<-e.o]at T;clear i h;unfold gJ;rw[<-e.o];have M:∀(w) (a) (n c y z),(binOp .eql 33 (.slice a n c) (.slice none y z)).run prog w=.ok (.bool a.isNone) w:=fun w a n c y z=>qh w _ _ a n c y z lB;cases a with
 | none=>
  have E:=za (F rfl);clear F;go_enter func86,ntmps86;go_wp2;go_ret;exact⟨_,rfl,⟨t.o,zr ⟨rfl,E.o⟩⟩,zB,zL⟩
 | some d=>
  clear F;go_enter func86,ntmps86;go_wp2_with (at_builtin;refine yI _ rfl _ _ 33 rfl w.heap.size 3 N (.int .i64 0) 1 8 lB P.o C.o D.o A.o rfl (by decide) _ _ _ rfl (uW w #[] 0 zL zZ rfl) d n c (ints l) rfl ?qc1 ?qc2 ?qc3 ?qc4 ?qc5 ?qc6 ?_)
  case qc1=>exact t.o
  case qc2 =>intro j u x;have:=B.o d rfl j u x;rw[wN _ _ _ (zG this)];exact this
  case qc3=>exact Oq l
  case qc4=>unfold maxLen;omega
  case qc5=>omega
  case qc6=>simp
  intro K R f b r;have G:=((x9 _ w).alloc zL _).grown b (by simp) (by intro k L;simp[Value.ownBlock]at L;omega);clear b r;go_wp2;go_ret;exact⟨K,rfl,f,G,G.size⟩
abbrev En:=ByteArray×Int
def ents (l:List En):List Value:=l.flatMap fun x=>[.string x.1,.int .i64 x.2]
theorem l3 (l):(ents l).length=l.length*2:=by
 induction l with
 | nil=>rfl
 | cons x l a=>simp only[ents,xo,zm,yx,xS]at *;omega
theorem Zw (a b):ents (a++b)=ents a++ents b:=by simp[ents]
theorem Zi (l) (k) (hk):(ents l)[k*2]?=some (.string l[k].1)/\(ents l)[k*2+1]?=some (.int .i64 l[k].2):=by
 induction l generalizing k with
 | nil=>simp at hk
 | cons x l a=>
  cases k with
  | zero=>simp[ents]
  | succ k=>
   have:=a k (by simpa using hk);simp only[ents,xo,tJ,yU]at this ⊢;rw[show (k+1)*2=k*2+1+1 by omega,show k*2+1+1+1=(k*2+1)+1+1 by omega];simpa using this
def rM (w:World) (v:Value) (l:List En):Prop:=wh w v 2 l.length (ents l)
theorem Zs {l:List En} (h:rM w v l) (N) (f:N=l.length):∃p cp,v=.slice p N cp/\(0<N->∃g o,p=some ⟨g,o,none⟩/\g<w.heap.size/\∀k (hk),w.cell? ⟨g,o+k*2,none⟩=some (.string l[k].1)/\w.cell? ⟨g,o+(k*2+1),none⟩=some (.int .i64 l[k].2)):=by
 subst f;obtain⟨_,⟨b,d,e,rfl⟩|⟨g,o,a,rfl,c⟩⟩:=h
 .exact⟨d,e,by rw[b],fun h=>by omega⟩
 .refine⟨_,a,rfl,fun b=>⟨g,o,rfl,zG (c _ _ (Zi l 0 b).1),fun k hk=>⟨c _ _ (Zi l k hk).1,c _ _ (Zi l k hk).2⟩⟩⟩
theorem fR (l):∀u∈ents l,u.oneCell'=true:=by intro u a;unfold ents at a;obtain⟨x,_,a⟩:=vA.1 a;simp at a;rcases a with rfl|rfl<;>rfl
theorem Vo: (prog.info? 46).map (fun i=>(i.zero,i.size,i.bytes))=some (some (.agg #[.string {data:=#[]},()]),2,24):=by kernel_rfl
theorem oR: prog.underlying 42=some (.slice 46):=by kernel_rfl
def Xi (B:Nat) (l:List En) (w:World) (e:Ending) (w':World):Prop:=∃v,e=.returned v/\w'.ownsRow B 46 2 v l.length (ents l)/\Below B w w'/\w.heap.size<=w'.heap.size
theorem Ko (v) (l:List (ByteArray×Int)) (w) (h:wh w v 2 l.length (ents l)) (T:l.length<=1000000):
 Calls prog 164 #[v] w (Xi w l w):=by
 obtain⟨N,H,m,p,q⟩:=xy Vo;have P:=za H;have C:=za m;have D:=za p;have A:=za q;clear H m p q;obtain⟨n,e⟩:=zA l.length;obtain⟨a,c,O,B⟩:∃a c,v=.slice a n c/\Hid (∀d,a=some d->∀j u,(ents l)[j]?=some u->w.cell? (d.add j)=some u)/\(a=none->n=0):=by
  obtain⟨S,⟨I,a,c,rfl⟩|⟨g,o,c,rfl,Q⟩⟩:=h
  .refine⟨a,c,by rw[e.o,I],fun d _ j u x=>?_,fun _=>by rw[e.o];exact I⟩;have:=(zJ.1 x).1;omega
  .refine⟨_,c,by rw[e.o],fun d J j u x=>?_,fun h=>by cases h⟩;cases J;have s:(⟨g,o,none⟩:Addr).add j=⟨g,o+j,none⟩:=(by unfold Addr.add;split<;>simp_all);rw[s];exact Q j u x
 obtain⟨B,F⟩:=B;subst O;have i:(ents l).length=n*2:=by rw[l3,<-e.o]
 have t:=za i;rw[<-e.o]at T;clear i h;unfold Xi;rw[<-e.o];have M:∀(w) (a) (n c y z),(binOp .eql 42 (.slice a n c) (.slice none y z)).run prog w=.ok (.bool a.isNone) w:=fun w a n c y z=>qh w _ _ a n c y z oR;cases a with
 | none=>
  have E:=za (F rfl);clear F;go_enter func164,ntmps164;go_wp2;go_ret;exact⟨_,rfl,⟨t.o,zr ⟨rfl,E.o⟩⟩,zB,zL⟩
 | some d=>
  clear F;go_enter func164,ntmps164;go_wp2_with (at_builtin;refine yI _ rfl _ _ 42 rfl w.heap.size 46 N (.agg #[.string {data:=#[]},()]) 2 24 oR P.o C.o D.o A.o rfl (by decide) _ _ _ rfl (uW w #[] 0 zL zZ rfl) d n c (ents l) rfl ?qc1 ?qc2 ?qc3 ?qc4 ?qc5 ?qc6 ?_)
  case qc1=>exact t.o
  case qc2 =>intro j u x;have:=B.o d rfl j u x;rw[wN _ _ _ (zG this)];exact this
  case qc3=>exact fR l
  case qc4=>unfold maxLen;omega
  case qc5=>omega
  case qc6=>simp
  intro K R f b r;have G:=((x9 _ w).alloc zL _).grown b (by simp) (by intro k L;simp[Value.ownBlock]at L;omega);clear b r;go_wp2;go_ret;exact⟨K,rfl,f,G,G.size⟩
section
variable {P : Program} {ops : Array Oper} {md : Region.Mode} {C : World->Prop}
def la (P:Program) (md:Region.Mode) (ops:Array Oper) (C:World->Prop) (n:Nat) (T:Array Bool->Act->Prop):Nat->Array Bool->Act->Prop
 | 0,done,a=>T done a
 | f+1,done,a=>Region.ready md ops done≠[]/\∀i∈Region.ready md ops done,i<n/\qOp P ops C i (la P md ops C n T f (done.setIfInBounds i true)) a
theorem Hg {n g:Nat} {T:Array Bool->Act->Prop} {Q:Exit->Act->World->Prop} (m:∀done a w,C w->T done a->wpAny P md ops Q g done a w):
 ∀(f) (done) (a) (w),C w->la P md ops C n T f done a->wpAny P md ops Q (f+g) done a w
 | 0,done,a,w,b,h=>by rw[yO];exact m _ _ _ b h
 | f+1,done,a,w,b,h=>by rw[show f+1+g=(f+g)+1 by omega];exact⟨fun k=>zY k h.1,fun i l=>wpOp_of_qOp b (fun j e c d=>Hg m f _ j e c d) (h.2 i l).2⟩
theorem Mi {oi:Oper} {T:Array Bool->Act->Prop} (N:ops[i]?=some oi) (L:∀(j:Nat) (o) cs b,ops[j]?=some o->o.op≠.select cs b)
 (O:Region.sinkB md ops n=true) (Q:Region.chainB md ops n=true) (R:n<ops.size) (M:i<n) (S:∀done a,T done a->∀j∈Region.ready md ops done,n<=j) (f):
 ∀(done) (a),HeadInv md ops n done ->
  (∀j oj,ops[j]?=some oj->j≠i->done.getD j true=false->(∀e∈oj.after,Region.binds md e=true->e.on≠i)->oi.apart ops oj=true) ->
  i∈Region.ready md ops done->YieldsIn P ops C oi v a->la P md ops C n T f (done.setIfInBounds i true) (a.put oi.dst v)->la P md ops C n T (f+1) done a:=by
 induction f with
 | zero=>
  intro done a g _ s x H;have m:=(pj.1 s).1;refine⟨List.ne_nil_of_mem s,fun j r=>?_⟩;have l:=Nat.lt_of_not_le fun h=>tail_waits O Q R g _ i rfl M m j h r;refine⟨l,?_⟩;by_cases c:j=i
  .subst c;exact x.qOp N H
  .exact zY (S _ _ H j (ready_mono r c)) (by omega)
 | succ f K=>
  intro done a g d s x H;have m:=(pj.1 s).1;refine⟨List.ne_nil_of_mem s,fun j r=>?_⟩;have l:=Nat.lt_of_not_le fun h=>tail_waits O Q R g _ i rfl M m j h r;refine⟨l,?_⟩;by_cases c:j=i
  .subst c;exact x.qOp N H
  .obtain⟨p,oj,q,w⟩:=pj.1 r;have y:∀e∈oj.after,Region.binds md e=true->e.on≠i:=fun e J F B=>(by have D:=w e J F;rw[B,getD_both m]at D;cases D);refine qOp_mono (fun I E=>K (done.setIfInBounds j true) I (g.set r l) ?_ (ready_mono s (yA c)) E.1 ?_) (qOp_put q (d j oj q c p y) (fun cs b=>L i oi cs b N) (fun cs b=>L j oj cs b q) x (H.2 j (ready_mono r c)).2)
   .intro k ok G A u z;refine d k ok G A ?_ z;by_cases t:j=k
    .subst t;exact p
    .rw[getD_set_ne true t]at u;exact u
   .rw[Array.setIfInBounds_comm _ _ c];exact E.2
theorem J6 {n g:Nat} {T:Act->Prop} (y:Region.noSelect ops=true) (z:Region.sinkB md ops n=true) (A:Region.chainB md ops n=true) (B:n<ops.size):
 ∀(l) (k) (done) (a),(∀j,j<l.length->l[j]?=ops[k+j]?)->k+l.length=n->HeadInv md ops n done ->
 Region.lexHead md ops g l.length k done=true->wpQuiet P ops C T l a ->
 la P md ops C n (fun done' a'=>Region.seqB md ops g n done'=true/\T a') l.length done a
 | [],k,done,a,_,f,_,i,h=>by
  obtain rfl:k=n:=by simpa using f
  exact⟨by simpa[Region.lexHead]using i,h⟩
 | o::l,k,done,a,q,f,d,i,h=>by
  have e:ops[k]?=some o:=by simpa using (q 0 (by simp)).symm
  simp only[yx,Region.lexHead,yL]at i;obtain⟨⟨w,t⟩,p⟩:=i;have b:k<n:=by simp only[yx]at f;omega
  have c:k∈Region.ready md ops done:=by simpa using w
  have m:qOp P ops C k (wpQuiet P ops C T l) a:=by unfold qOp;simp only[e];exact h
  obtain⟨v,u,r⟩:=yieldsIn_of_qOp e m;exact Mi e (Region.noSelect_spec y) z A B b (fun done' a' s=>seqB_ready s.1) l.length done a d (Region.free_spec e t) c u
   (J6 y z A B l (k+1) _ _ (fun j x=>by have:=q (j+1) (by simp;omega);simpa[yC,Nat.add_comm 1 j]using this) (by simp only[yx]at f;omega) (d.set c b) p r)
theorem Zz (n) (C:P.follows .mixedOrders=true) (hB:Region.lexTailB .any l.toArray n=true)
 (h:wpQuiet P l.toArray (fun w'=>∃p:Regrown,w'=Sort.grow (redrawn w p.d) p.os) (fun a'=>∀w',(∃p:Regrown,w'=Sort.grow (redrawn w p.d) p.os)->wpList P l.toArray Q (l.drop n) a' w') (l.take n) a):(Code.region id l.toArray true).wp P Q a w:=by
 simp only[Region.lexTailB,yL,xw]at hB;obtain⟨⟨⟨⟨k,u⟩,z⟩,A⟩,i⟩:=hB;have y:n<l.length:=by simpa using u
 have b:(l.take n).length=n:=by simp;omega
 have m:(l.drop n).length=l.toArray.size-n:=by simp
 have f:HeadInv .any l.toArray n (Array.replicate l.toArray.size false):=
  ⟨by simp,fun j B _ s=>(by rw[getD_replicate_false]at s;cases s),fun t _ x=>getD_in (by simpa using x) (getD_replicate_false _ _)⟩
 have H:=J6 (md:=.any) (g:=l.toArray.size-n) k z A u (l.take n) 0 _ a (fun j v=>by
  have q:j<n:=by rw[b]at v;exact v
  simp[q]) (by simpa using b) f (by rw[b];exact i) h
 refine wp_region_any C ?_;have c:∃p:Regrown,({w with drawn:=w.drawn+1})=Sort.grow (redrawn w p.d) p.os:=regrown_of_below ⟨rfl,rfl,rfl,zL,fun _ _=>rfl⟩;have:=Hg (Q:=Q) (g:=l.toArray.size-n) (fun e a' w' o r=>by
  have:=wpAny_of_seq (md:=.any) (Q':=Q) (l.drop n) n e a' w' (fun j=>by simp[yw]) (by rw[m];exact r.1) (r.2 w' o)
  rwa [m]at this) _ _ _ _ c H
 rw[b,show n+(l.toArray.size-n)=l.toArray.size by omega]at this;exact this
end
section
variable {P : Program} {l : List Oper}
structure FJ (J:(Nat->Bool)->(Nat->Value)->World->Prop) (m:Nat) (sl:Nat->Nat) (F:Nat->Value->Prop) (old:Nat->Value->Prop) (D:Nat->Bool) (a:Act) (u:World):Prop where
 j:J D (fun i=>a.tmps.getD (sl i) undef) u
 size:a.tmps.size=m
 dfs:a.defers=[]
 old:∀k v,old k v->a.tmps.getD k undef=v
 fact:∀i,D i=true->F i (a.tmps.getD (sl i) undef)
theorem Io (S:P.follows .mixedOrders=true) (T:fY l=true) (J) (m) (I:Nat->Nat) (F) (old)
 (K:∀i j,i≠j->I i≠I j) (M:∀i k v,old k v->k≠I i)
 (R:(l.zipIdx.all fun p=>p.1.guard.isNone&&p.1.dst==(if I p.2<m then some (I p.2) else none))=true)
 (O:a.tmps.size=m/\a.defers=[]/\(∀k v,old k v->a.tmps.getD k undef=v)/\J (fun _=>false) (fun i=>a.tmps.getD (I i) undef) w.drew)
 (L:∀D a u,FJ J m I F old D a u->∀i o,l[i]?=some o->D i=false->(∀e∈o.after,Region.binds .any e=true->D e.on=true) ->
  o.wp P a u (fun a' u'=>∃v,a'=a.put o.dst v/\(m<=I i->v=undef)/\F i v/\∀g,g i=v->(∀k,k≠i->g k=a.tmps.getD (I k) undef)->J (upd D i) g u') Q)
 (N:∀D a u,FJ J m I F old D a u->(∀i,i<l.length->D i=true)->Q .normal a u):(Code.region id l.toArray true).wp P Q a w:=by
 refine Jr S T (FJ J m I F old) ?_ ?_ N
 .exact⟨O.2.2.2,O.1,O.2.1,O.2.2.1,fun i G=>by simp at G⟩
 .intro D a u h i o s B H;have E:=(zJ.1 s).1;have z:=yW.1 R (o,i) (by rw[uv];exact s);simp only[yL,vU,vx]at z;obtain⟨A,r⟩:=z;refine UG A (sj ?_ (L D a u h i o s B H));rintro a' u' ⟨v,rfl,C,x,y⟩;by_cases f:I i<m
  .rw[ze f]at r;rw[r];have q:I i<a.tmps.size:=(by rw[h.size];exact f);have b:(a.put (some (I i)) v).tmps.getD (I i) undef=v:=(by show (a.tmps.setIfInBounds (I i) v).getD (I i) undef=v;simp[xN,q]);have d:∀k,k≠I i->(a.put (some (I i)) v).tmps.getD k undef=a.tmps.getD k undef:=fun k n=>(by show (a.tmps.setIfInBounds (I i) v).getD k undef=_;simp only[xN,yM,zb (yA n)]);refine⟨y _ b fun k n=>d _ (K k i n),?_,h.dfs,fun k v n=>?_,fun j t=>?_⟩
   .show (a.tmps.setIfInBounds (I i) v).size=m;rw[wk];exact h.size
   .rw[d k (M i k v n)];exact h.old k v n
   .by_cases c:j=i
    .subst c;rw[b];exact x
    .rw[d _ (K j i c)];exact h.fact j (lh t c)
  .rw[zb f]at r;rw[r];obtain rfl:=C (by omega);have b:a.tmps.getD (I i) undef=undef:=(by have:¬I i<a.tmps.size:=(by rw[h.size];exact f);simp only[xN];rw[yd (by omega)];rfl);refine⟨y _ b fun k _=>rfl,h.size,h.dfs,h.old,fun j t=>?_⟩;by_cases c:j=i
   .subst c;show F j (a.tmps.getD (I j) undef);rw[b];exact x
   .exact h.fact j (lh t c)
end
theorem NP {g o:Nat} {R A:Array Value} {t:TypeId} {fr:Nat×Nat} (h:w.heap[g]?=some (.cells R t fr)) (c:∀j,j<A.size->R[o+j]?=A[j]?):w.rangeAt g o A.toList:=fun j v b=>by
 have a:j<A.size:=by have:=(zJ.1 b).1;simpa using this
 rw[zC h,c j a,<-b,zO]
theorem Z6 {l:List Int} (h:vT w v l):∃p cp,v=.slice p l.length cp/\Hid (0<l.length->∃g o,p=some ⟨g,o,none⟩/\∀(j) (x),(ints l)[j]?=some x->w.cell? ⟨g,o+j,none⟩=some x):=by
 obtain⟨_,⟨d,b,c,rfl⟩|⟨g,o,a,rfl,e⟩⟩:=h
 .exact⟨b,c,by rw[d],fun h=>by omega⟩
 .exact⟨_,a,rfl,fun _=>⟨g,o,rfl,e⟩⟩
def idxL (l:List Int) (x:Int):Int:=match l.findIdx? (fun y=>y==x) with|some k=>k|none=> -1
theorem Km (v) (l) (x) (w) (h:vT w v l) (F:l.length<=1000000):
 Calls prog 121 #[v,.int .i64 x] w fun e w'=>e=.returned (.int .i64 (idxL l x))/\w=w':=by
 obtain⟨p,E,rfl,z⟩:=Z6 h;obtain⟨N,d⟩:=zD l.length;rw[d.o]at F z;rw[d.o];clear h;go_enter func121,ntmps121;go_wp2
 go_loop [8] (fun i=>∃k:Nat,k<=N/\i=.int .i64 k/\Hid (∀j (b:j<l.length),j<k->l[j]≠x)) (fun i=>N-(intOf i).toNat)
 case atStart=>exact⟨0,ye _,rfl,fun j _ h=>zY h (kt j)⟩
 case round=>
  obtain⟨k,C,rfl,s⟩:=hrel;by_cases f:k<N
  .obtain⟨g,o,rfl,u⟩:=z.o (by omega);have c:k<l.length:=(by rw[d.o];exact f);have q:=mu l k c;obtain⟨y,n⟩:=zD (l[k]);rw[n.o]at q;have D:=u _ _ q;have t:k<(N:Int):=(by omega);clear u q;by_cases a:x=y
   .have m:Hid (idxL l x=k):=(by show _=_;unfold idxL;have:l.findIdx? (fun y=>y==x)=some k:=(by rw[xP];exact⟨c,by rw[n.o,a];simp,fun j b=>by simpa using s.o j (by omega) b⟩);rw[this]);subst a;go_wp2;go_ret;rw[m.o];exact⟨rfl,rfl⟩
   .have r:Hid (∀j (b),j<k+1->l[j]≠x):=fun j b h=>by
     by_cases e:j=k
     .subst e;rw[n.o];exact fun e=>a e.symm
     .exact s.o j b (by omega)
    have B:(x==y)=false:=(by simpa using a);clear a;go_wp2
    go_round
    case rel=>exact⟨k+1,by omega,by go_num,r⟩
    case measure=>simp[intOf];omega
  .have m:Hid (idxL l x = -1):=(by show _=_;unfold idxL;have:l.findIdx? (fun y=>y==x)=none:=(by rw[vV];intro y A;obtain⟨j,b,rfl⟩:=va A;simpa using s.o j b (by rw[d.o]at b;omega));rw[this]);go_wp2;go_ret;rw[m.o];exact⟨rfl,rfl⟩
theorem Kn (l) (x):decide (0<=idxL l x)=l.contains x:=by
 unfold idxL;cases h:l.findIdx? fun y=>y==x with
 | none=>
  rw[vV]at h;rw[show decide (0<=(-1:Int))=false from rfl]
  symm
  rw[<-tK];intro c;have:=h x (by simpa using c);simp at this
 | some k=>
  rw[xP]at h;obtain⟨b,a,_⟩:=h;rw[ya (show (0:Int)<=(k:Int) by omega)]
  symm
  simp only[ux,vx]at *
  rw[<-a];exact zx b
theorem Gn (v) (l) (x) (w) (h:vT w v l) (m:l.length<=1000000):
 Calls prog 65 #[v,.int .i64 x] w fun e w'=>e=.returned (.bool (l.contains x))/\w=w':=by
 have g:=za (Km v l x w h m);obtain⟨p,j,rfl,_⟩:=Z6 h;have f:=za (Kn l x);have d: -1<=idxL l x/\idxL l x<=1000000:=by
  unfold idxL;cases a:l.findIdx? fun y=>y==x with
  | none=>exact⟨by simp,by simp⟩
  | some k=>
   rw[xP]at a;obtain⟨i,_⟩:=a;exact⟨by show (-1:Int)<=(k:Int);omega,by show (k:Int)<=1000000;omega⟩
 obtain⟨c,b⟩:=d;clear h m;generalize idxL l x=q at *
 go_enter func65,ntmps65
 go_wp2_with fail
 refine g.o.mono ?_;rintro e w' ⟨rfl,rfl⟩;go_wp2;go_ret;rw[<-f.o];exact⟨rfl,rfl⟩
theorem U6 {B:Nat} {a:World} (h:Below B a w) (n:Nat):Below B a (w.drewN n):=⟨h.os,h.tape,h.output,h.size,h.block⟩
def lN (a b:List Int):Bool:=decide (a=b)
theorem Gm (u v:Value) (a b:List Int) (w:World) (h1:vQ w u a) (h2:vQ w v b) (aa:a.length=b.length) (hl:a.length<=1000000):
 Calls prog 94 #[u,v] w fun e w'=>e=.returned (.bool (lN a b))/\Below w w w':=by
 obtain⟨N,t⟩:=zA a.length;have m:Hid (N=b.length):=by rw[t.o];exact aa
 obtain⟨p,B,Q,S⟩:∃p B,u=.slice p N B/\Hid (0<N->∃g o,p=some ⟨g,o,none⟩/\∀(j:Nat) (x:Value),(u8s a)[j]?=some x->w.cell? ⟨g,o+j,none⟩=some x):=by
  rw[t.o];obtain⟨_,⟨C,J,K,rfl⟩|⟨g,o,l,rfl,n⟩⟩:=h1
  .exact⟨J,K,by rw[C],fun h=>by omega⟩
  .exact⟨_,l,rfl,fun _=>⟨g,o,rfl,n⟩⟩
 obtain⟨q,cq,R,O⟩:∃p B,v=.slice p N B/\Hid (0<N->∃g o,p=some ⟨g,o,none⟩/\∀(j:Nat) (x:Value),(u8s b)[j]?=some x->w.cell? ⟨g,o+j,none⟩=some x):=by
  rw[m.o];obtain⟨_,⟨C,J,K,rfl⟩|⟨g,o,l,rfl,n⟩⟩:=h2
  .exact⟨J,K,by rw[C],fun h=>by omega⟩
  .exact⟨_,l,rfl,fun _=>⟨g,o,rfl,n⟩⟩
 subst Q R;rw[<-t.o]at hl;clear h1 h2 aa;go_enter func94,ntmps94;go_wp2;go_loopw [13] (fun i wr=>∃k:Nat,k<=N/\i=.int .i64 k/\Hid (a.take k=b.take k)/\Below w w wr) (fun i _=>N-(intOf i).toNat);case atStart=>exact⟨0,ye _,rfl,rfl,zB⟩
 case round=>
  obtain⟨k,V,rfl,M,A⟩:=hrel;by_cases r:k<N
  .obtain⟨g,o,rfl,n⟩:=S.o (by omega);obtain⟨X,o',rfl,f⟩:=O.o (by omega);have s:k<a.length:=(by rw[<-t.o];exact r);have z:k<b.length:=(by rw[<-m.o];exact r);have F:=qg a k s;have E:=qg b k z;obtain⟨x,I⟩:=zA (a[k]);obtain⟨y,H⟩:=zA (b[k]);rw[<-I.out]at F;rw[<-H.out]at E;have d:∀{x:Addr} {y:Value},w.cell? x=some y->wr.cell? x=some y:=fun h=>(A.cell (zG h)).trans h;have Z:=d (n _ _ F);have W:=d (f _ _ E);have Y:=za n;have P:=za f;clear n f F E d;have L:(k:Int)<(N:Int):=(by omega);by_cases c:x=y
   .have G:Hid (a.take (k+1)=b.take (k+1)):=(by show _=_;rw[<-zR s,<-zR z,M.o,<-I.out,<-H.out,c]);subst c;go_wp2
    go_quiet (fail)
    go_wp2;go_roundw;case rel=>exact⟨k+1,by omega,by go_num,G,U6 A _⟩
    case measure=>simp[intOf];omega
   .have D:Hid (lN a b=false):=(by show _=_;unfold lN;rw[zM];intro e;apply c;rw[I.out,H.out];subst e;rfl);have U:(x==y)=false:=(by simpa using c);have b2:(x != y)=true:=(by simpa using c);have T:=za c;clear c;go_wp2
    go_quiet (fail)
    go_wp2;go_ret;rw[D.o];exact⟨rfl,U6 A _⟩
  .have D:Hid (lN a b=true):=(by show _=_;unfold lN;rw[yJ];have:=M.o;rw[zv (by rw[<-t.o];omega),zv (by rw[<-m.o];omega)]at this;exact this);go_wp2;go_ret;rw[D.o];exact⟨rfl,A⟩
