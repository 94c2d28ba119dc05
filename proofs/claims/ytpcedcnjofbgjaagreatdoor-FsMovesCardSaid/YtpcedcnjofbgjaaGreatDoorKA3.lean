import Derived.Test.YtpcedcnjofbgjaaGreatDoorKA1
import Derived.Maps.RangeWalk
import Derived.Maps.OwnSet
import Derived.Maps.OwnOps
import Derived.Maps.Ext
import Derived.Lib.Hide
import Derived.WalkSpells
import Derived.Shelf.Small.Strs
import Derived.Shelf.Strings.Trim
import Derived.Test.YtpcedcnjofbgjaaGreatDoorProg
import Derived.LoopTactic
import Derived.IntWalk
import Derived.BigQuiet
import Derived.Deep.QuietTactic
import Derived.Sort.Grow
import Derived.Test.YtpcedcnjofbgjaaGreatDoorRows
set_option maxHeartbeats 0
set_option linter.all false
set_option maxRecDepth 100000
namespace Go.Proofs.YtpcedcnjofbgjaaGreatDoor
open Go.Proofs.Tryz Go.RowKit Go.Maps
open Go (World.grownBy)
variable {cnt r:Nat} {done:List (Int×Value)} {k x:Int} {z:Value} {α:Type}
abbrev MG:=@Maps.keyOf_int_inv
abbrev MU:=@World.ownsMap_made
abbrev sI:=@wpList_mapUpdate_own
def InZ (x:Int):Prop:= -9223372036854775808<=x/\x<=9223372036854775807
def putZ {α:Type}:List (Int×α)->Int->α->List (Int×α)
 | [],k,v=>[(k,v)]
 | y::r,k,v=>if k<y.1 then (k,v)::y::r else if k=y.1 then (k,v)::r else y::putZ r k v
def getZ {α:Type}:List (Int×α)->Int->Option α
 | [],_=>none
 | y::r,k=>if y.1=k then some y.2 else getZ r k
def delZ {α:Type} (l:List (Int×α)) (k:Int):List (Int×α):=l.filter λy=> !decide (y.1=k)
def rB {α:Type} (l:List (Int×α)):Prop:=l.Pairwise λa b=>a.1<b.1
def hasZ {α} (l:List (Int×α)) (k:Int):Bool:=(getZ l k).isSome
theorem rB.tail {y:Int×α} {r:List (Int×α)} (h:rB (y::r)):rB r:=(xY.1 h).2
theorem rB.head {y:Int×α} {r:List (Int×α)} (h:rB (y::r)):∀z∈r,y.1<z.1:=(xY.1 h).1
theorem NJ {α:Type} {k:Int} {v:α}:∀{l} {z},z∈putZ l k v->z=(k,v)\/z∈l
 | [],z,h=>by simpa[putZ]using h
 | y::r,z,h=>by
  unfold putZ at h;split at h
  .rcases yZ.1 h with h|h
   .exact zu h
   .exact zw h
  .split at h
   .rcases yZ.1 h with h|h
    .exact zu h
    .exact zw (xj _ h)
   .rcases yZ.1 h with h|h
    .exact zw (h▸xK)
    .rcases NJ h with h|h
     .exact zu h
     .exact zw (xj _ h)
theorem kE {α:Type} (k) (v):∀{l:List (Int×α)},rB l->rB (putZ l k v)
 | [],_=>xY.2 ⟨by simp,List.Pairwise.nil⟩
 | y::r,h=>by
  unfold putZ;split
  .rename_i b;refine xY.2 ⟨λz a=>?_,h⟩;rcases yZ.1 a with rfl|a
   .exact b
   .have:=h.head z a;show k<z.1;omega
  .split
   .rename_i b;exact xY.2 ⟨λz a=>by have:=h.head z a;show k<z.1;omega,h.tail⟩
   .rename_i d c;refine xY.2 ⟨λz a=>?_,kE k v h.tail⟩;rcases NJ a with rfl|a
    .show y.1<k;omega
    .exact h.head z a
theorem K0 (k) {l:List (Int×α)} (h:rB l):rB (delZ l k):=h.filter _
theorem oN {l:List (Int×α)} {z:Int×α} (h:z∈delZ l k):z∈l:=(Mo.1 h).1
theorem pT {α:Type} (k) (v):∀(l:List (Int×α)),(putZ l k v).length<=l.length+1
 | []=>by simp[putZ]
 | y::r=>by
  unfold putZ;have:=pT k v r;split
  .simp
  .split
   .simp
   .simp only[yv];omega
theorem pU {α:Type} {k:Int} {v:α}:∀{l},getZ l k=some v->(k,v)∈l
 | [],h=>by simp[getZ]at h
 | y::r,h=>by
  unfold getZ at h;split at h
  .rename_i e;cases h;subst e;exact xK
  .exact xj _ (pU h)
theorem ux {α:Type} {k:Int} {v:α}:∀{l},rB l->(k,v)∈l->getZ l k=some v
 | y::r,a,h=>by
  unfold getZ;rcases yZ.1 h with h|h
  .subst h;rw[ze rfl]
  .have:=a.head _ h;rw[zb (by intro e;simp only[e]at this;omega)];exact ux a.tail h
theorem NP {α:Type} (k) (v):∀(l:List (Int×α)),getZ (putZ l k v) k=some v
 | []=>by simp[putZ,getZ]
 | y::r=>by
  unfold putZ;split
  .simp[getZ]
  .split
   .simp[getZ]
   .rename_i b a;rw[getZ,zb (λe=>a e.symm)];exact NP k v r
theorem qE {α:Type} {k j:Int} (v) (c:j≠k):∀(l:List (Int×α)),getZ (putZ l k v) j=getZ l j
 | []=>by simp[putZ,getZ,yA c]
 | y::r=>by
  unfold putZ;split
  .simp[getZ,yA c]
  .split
   .rename_i a b;rw[getZ,getZ,zb (yA c),zb (by omega)]
   .rw[getZ,getZ,qE v c r]
def iq (v:Value):Option (DataW Value×List MemPlace):=some (.held v,[])
def encZ (x:Int×Value):Lit×DataW Value:=(.int .i64 x.1,.held x.2)
def MapL (P:Program) (K:TypeId) (w:World) (b:Nat) (l:List (Int×Value)):Prop:=
 w.ownsMap P K iq b l.length (.map (l.map encZ))/\rB l/\(∀x∈l,InZ x.1)
section
variable {P : Program} {K T E : TypeId} {w w' : World} {b : Nat} {l : List (Int×Value)}
theorem wf_z (h:InZ x):(Lit.int .i64 x).wf=true:=WalkArith.wf_i64 ⟨h.1,h.2⟩
theorem GE (a:P.underlying K=some (.int .i64)) (h:InZ x):keyOf P K (.int .i64 x)=some (.int .i64 x):=keyOf_int_mk a (wf_z h)
theorem MapL.lt (h:MapL P K w b l):b<w.heap.size:=h.1.lt
theorem MapL.made (w:World):MapL P K (w.alloc (.map #[] 0)) w.heap.size []:=⟨MU _ _ _ _,List.Pairwise.nil,by simp⟩
abbrev oI:=@MapL.made
theorem MapL.of_block (h:MapL P K w b l) (g:w'.heap[b]?=w.heap[b]?):MapL P K w' b l:=by obtain⟨⟨e,a,d,c⟩,f⟩:=h;exact⟨⟨e,a,g.trans d,c⟩,f⟩
theorem Wd (x k):(Lit.int .i64 x).sameKey (.int .i64 k)=decide (x=k):=by simp[Lit.sameKey]
theorem fH (l) (k):(l.map encZ).filter (λp=> !p.1.sameKey (.int .i64 k))=(delZ l k).map encZ:=by
 unfold delZ;rw[List.filter_map]
 congr 1
 apply List.filter_congr;intro x _;show (!(Lit.int .i64 x.1).sameKey (.int .i64 k))=_;rw[Wd]
theorem mB (k) (v):∀{l},rB l->DataW.insert (encZ (k,v)) ((delZ l k).map encZ)=(putZ l k v).map encZ
 | [],_=>rfl
 | y::r,h=>by
  have f:=mB k v h.tail;have a:=h.head;unfold delZ at *
  rw[vT,putZ];by_cases b:k<y.1
  .rw[ze b,ze (by simp;omega)];have e:r.filter (λy=> !decide (y.1=k))=r:=(by apply uL.2;intro z d;have:=a z d;simp;omega);rw[e,yB,DataW.insert,ze (by show decide (k<y.1)=true;simpa using b)];rfl
  .rw[zb b];by_cases c:k=y.1
   .rw[ze c,zb (by simp[c])];have e:r.filter (λy=> !decide (y.1=k))=r:=(by apply uL.2;intro z d;have:=a z d;simp;omega);rw[e];cases r with
    | nil=>rfl
    | cons z r=>
     have:=a z xK;rw[yB,DataW.insert,ze (by show decide (k<z.1)=true;simp;omega)];rfl
   .rw[zb c,ze (by simp;omega),yB,DataW.insert,zb (by show ¬decide (k<y.1)=true;simpa using b),f];rfl
theorem qp (k) (zd):∀(l),(DataW.map (l.map encZ)).atKey (.int .i64 k) zd=((getZ l k).map DataW.held).getD zd
 | []=>rfl
 | y::r=>by
  have b:=qp k zd r;unfold DataW.atKey at b |-;simp only[yB,List.find?_cons]at b |-;have e:(encZ y).1.sameKey (.int .i64 k)=decide (y.1=k):=Wd _ _;rw[e,getZ];by_cases a:y.1=k
  .rw[ze a,zX a];rfl
  .rw[zb a,zJ a];exact b
theorem L0 (k):∀(l),Maps.has (DataW.map (l.map encZ)) (.int .i64 k)=hasZ l k
 | []=>rfl
 | y::r=>by
  have b:=L0 k r;unfold hasZ at b |-;rw[has_eq]at b |-;simp only[yB,List.any_cons];rw[b];show ((Lit.int .i64 y.1).sameKey (.int .i64 k)||_)=_;rw[Wd,getZ];by_cases a:y.1=k
  .rw[ze a,zX a];rfl
  .rw[zb a,zJ a];rfl
theorem V8 {v:Value} {x:Value} {ps:List MemPlace} (h:iq v=some (.held x,ps)):v=x:=by unfold iq at h;simp only[zm,Prod.mk.injEq,DataW.held.injEq]at h;exact h.1
theorem MapL.look (h:MapL P K w b l) (f:P.underlying K=some (.int .i64)) (g:P.underlying T=some (.map K E)) (i:(zeroValue E).run P w=.ok z w) (j:InZ k):
 (Instr.lookup T (.map (some b)) (.int .i64 k) false).run P w=.ok ((getZ l k).getD z) w:=by
 obtain⟨v,d,c,a⟩:=h.1.lookup (int_keyed f) g i (zd:=.held z) (zp:=[]) rfl (GE f j);rw[qp]at a;have e:((getZ l k).map DataW.held).getD (.held z)=.held ((getZ l k).getD z):=by cases getZ l k<;>rfl
 rw[e]at a;rw[c,V8 a]
theorem MapL.look_ok (h:MapL P K w b l) (f:P.underlying K=some (.int .i64)) (g:P.underlying T=some (.map K E)) (i:(zeroValue E).run P w=.ok z w) (j:InZ k):
 (Instr.lookup T (.map (some b)) (.int .i64 k) true).run P w=.ok (.tuple #[(getZ l k).getD z,.bool (hasZ l k)]) w:=by
 obtain⟨v,d,c,a⟩:=h.1.look_ok (int_keyed f) g i (zd:=.held z) (zp:=[]) rfl (GE f j);rw[qp]at a;have e:((getZ l k).map DataW.held).getD (.held z)=.held ((getZ l k).getD z):=by cases getZ l k<;>rfl
 rw[e]at a;rw[c,V8 a,L0]
theorem MapL.len (h:MapL P K w b l) (a:P.underlying T=some (.map K E)) (ty):(Builtin.len_ #[T] ty #[.map (some b)]).run P w=.ok (.int .i64 l.length) w:=by rw[h.1.len a ty];simp[Maps.size]
theorem MapL.shrink {n:Nat} (h:w.ownsMap P K iq b n (.map (l.map encZ))):w.ownsMap P K iq b l.length (.map (l.map encZ)):=by
 obtain⟨c,a,e,F,f,d⟩:=h;refine⟨c,a,e,F,?_,d⟩;have:l.length=c.size:=by have:=zQ Maps.size d;simpa[Maps.size,length_sorted]using this
 omega
theorem MapL.store (h:MapL P K w b l) (i:P.underlying K=some (.int .i64)) (m:P.underlying T=some (.map K E)) (o:l.length<1000000) (j:InZ k) (v):
 ∃w',(Instr.mapUpdate T (.map (some b)) (.int .i64 k) v).run P w=.ok () w'/\MapL P K w' b (putZ l k v)/\w.mapTurned w' b:=by
 obtain⟨w',f,c,g⟩:=h.1.store (int_keyed i) m (by unfold maxLen;omega) (GE i j) (d:=.held v) (ps:=[]) (val:=v) rfl;refine⟨w',f,⟨MapL.shrink (n:=l.length+1) ?_,kE k v h.2.1,λx a=>?_⟩,g⟩
 .have e:(DataW.map (l.map encZ)).put (.int .i64 k) (.held v)=.map ((putZ l k v).map encZ):=by show DataW.map (DataW.insert (encZ (k,v)) ((l.map encZ).filter λp=> !p.1.sameKey (.int .i64 k)))=_;rw[fH,mB k v h.2.1]
  rw[e]at c;exact c
 .rcases NJ a with rfl|a
  .exact j
  .exact h.2.2 x a
theorem MapL.drop (h:MapL P K w b l) (g:P.underlying K=some (.int .i64)) (i:P.underlying T=some (.map K E)) (j:InZ k) (ty):
 ∃w',(Builtin.delete_ #[T,K] ty #[.map (some b),k]).run P w=.ok (.tuple #[]) w'/\MapL P K w' b (delZ l k)/\w.mapTurned w' b:=by
 obtain⟨w',c,a,d⟩:=h.1.drop (int_keyed g) i (GE g j) ty;refine⟨w',c,⟨MapL.shrink (n:=l.length) ?_,K0 k h.2.1,λx f=>h.2.2 x (oN f)⟩,d⟩;have e:(DataW.map (l.map encZ)).del (.int .i64 k)=.map ((delZ l k).map encZ):=by show DataW.map ((l.map encZ).filter λp=> !p.1.sameKey (.int .i64 k))=_;rw[fH]
 rw[e]at a;exact a
def fy (P:Program) (K:TypeId) (w:World) (b r:Nat) (l done:List (Int×Value)) (cnt:Nat):Prop:=
 rB l/\(∀x∈l,InZ x.1)/\(done.map (·.1)).Nodup/\(∀x∈done,x∈l)/\∃left,w.ranges P K iq b r l.length (.map (l.map encZ)) left cnt/\∀x,InZ x->left (.int .i64 x)=(hasZ l x&&!(done.map (·.1)).contains x)
theorem fy.map (h:fy P K w b r l done cnt):MapL P K w b l:=by obtain⟨d,c,_,_,a,e,_⟩:=h;exact⟨e.owns,d,c⟩
theorem fy.lt (h:fy P K w b r l done cnt):r<w.heap.size:=by obtain⟨e,d,_,_,a,c,_⟩:=h;exact c.lt
theorem fy.left_eq (h:fy P K w b r l done cnt):w.rangeLeft b r=cnt:=by obtain⟨e,d,_,_,a,c,_⟩:=h;exact c.left_eq
theorem fy.of_block (h:fy P K w b r l done cnt) (v:w'.heap[b]?=w.heap[b]?) (x:w'.heap[r]?=w.heap[r]?):fy P K w' b r l done cnt:=by obtain⟨m,i,o,j,e,⟨n,c,a,d,s,k,t,p,f,u,g⟩,q⟩:=h;exact⟨m,i,o,j,e,⟨n,c,a,d,s,v.trans k,t,p,f,x.trans u,g⟩,q⟩
theorem ss : ∀{xs ys:List Int},xs.Nodup->xs ⊆ ys->xs.length<=ys.length
 | [],_,_,_=>yh _
 | x::xs,ys,h,a=>by obtain⟨g,f⟩:=vZ.1 h;have b:=a xK;have d:=ss (ys:=ys.erase x) f (λz c=>(List.mem_erase_of_ne (λe:z=x=>g (e▸c))).2 (a (xj _ c)));rw[List.length_erase_of_mem b]at d;have  :=MJ b;simp only[yv];omega
theorem Y0 {l:List (Int×Value)} (q:rB l) (s:(done.map (·.1)).Nodup) (r:∀x∈done,x∈l) (t:∀x∈l,x.1∈done.map (·.1)):done.Perm l:=by
 have o:done.Nodup:=List.Pairwise.of_map _ (λa b d e=>d (by rw[e])) s;have p:l.Nodup:=q.imp λh e=>by rw[e]at h;omega
 refine (ll o p).2 λa=>⟨r a,λg=>?_⟩;obtain⟨c,i,e⟩:=yd.1 (t a g);have f:=r c i;have m:=ux q (k:=a.1) (v:=a.2) g;have j:=ux q (k:=c.1) (v:=c.2) f;rw[e,m]at j;have n:=tZ j;have  :=Prod.ext e n.symm;exact this▸i
end
section
variable {P : Program} (w : World) {ops : Array Oper} {rest : List Oper} {o : Oper} {a : Act} {Q : Exit->Act->World->Prop}
theorem mQ (j:o.guard=none) (m) (t) (g:o.op=Op.range t m) (K E) (i:P.underlying K=some (.int .i64)) (k:P.underlying t=some (.map K E)) (b) (l)
 (n:a.eval m=.map (some b)) (h:MapL P K w b l)
 (p:∀w',fy P K w' b w l [] l.length->w.grownBy w' none->w'.heap.size=w.heap.size+1->wpList P ops Q rest (a.put o.dst (w.heap.size,())) w'):
 wpList P ops Q (o::rest) a w:=by
 refine wpList_range_own w j m t g K E (int_keyed i) k iq b l.length (.map (l.map encZ)) n h.1 λw' d c f=>p w' ⟨h.2.1,h.2.2,by simp,by simp,Maps.has (DataW.map (l.map encZ)),?_,λx _=>?_⟩ c f
 .have e:Maps.size (DataW.map (l.map encZ))=l.length:=by simp[Maps.size]
  rw[e]at d;exact d
 .rw[L0];simp
theorem RF (hg:o.guard=none) (it) (af:o.op=Op.next it false) (K) (aa:P.underlying K=some (.int .i64)) (b r) (l done) (cnt)
 (ag:a.eval it=.pointer (some ⟨r,0,none⟩)) (h:fy P K w b r l done cnt)
 (ab:done.Perm l->wpList P ops Q rest (a.put o.dst (.tuple #[.bool false])) w)
 (ad:∀(x) (c) (w') (cnt'),InZ x->(x,c)∈l->x∉done.map (·.1)->done.length<l.length->fy P K w' b r l (done++[(x,c)]) cnt'->cnt'<cnt ->
  w.grownBy w' (some r)->w'.heap.size=w.heap.size->(Instr.entry (r,())).run P w'=.ok (.tuple #[x,c]) w'->wpList P ops Q rest (a.put o.dst (.tuple #[.bool true,x,c])) w'):
 wpList P ops Q (o::rest) a w:=by
 obtain⟨G,T,N,F,i,X,R⟩:=h;refine wpList_next_ranges (α:=Int) (β:=Value) w hg it af K (int_keyed aa) iq (Value.int .i64) id (λZ kl W=>by obtain⟨x,rfl,_⟩:=MG aa W;exact⟨x,rfl⟩) (λv _ _=>⟨v,rfl⟩) b r l.length _ i cnt ag X (λ_ C=>ab ?_) ?_
 .refine Y0 G N F λx A=>?_;have e:=C (.int .i64 x.1);rw[R x.1 (T x A)]at e;have hg:hasZ l x.1=true:=by unfold hasZ;rw[ux G (k:=x.1) (v:=x.2) A];rfl
  rw[hg]at e;simpa using e
 .intro x c kl y w' cnt' t O U E H D M J I;obtain⟨x',V,rfl,j⟩:=MG aa t;cases V;have A:InZ x:=by simp only[Lit.wf,yS,xe]at j;have e1:IntKind.i64.min = -9223372036854775808:=rfl;have Y:IntKind.i64.max=9223372036854775807:=rfl;rw[e1,Y]at j;exact j
  have C:=R x A;rw[O]at C;have f:hasZ l x=true/\x∉done.map (·.1):=by have:=C.symm;simp only[yS,um,List.contains_eq_mem,zz]at this;exact this
  obtain⟨v,s⟩:∃v,getZ l x=some v:=Mp.1 f.1;have hc:v=c:=by have:=E (.held c);rw[qp,s]at this;unfold iq at U;cases U;simpa using this
  subst hc;have d:=pU s;have u:done.length<l.length:=by
   have B:(done.map (·.1)++[x]).Nodup:=wl.2 ⟨N,by simp,λa S b p e=>f.2 (by simp at p;rw[<-p,<-e];exact S)⟩;have L:(done.map (·.1)++[x]) ⊆ l.map (·.1):=λz g=>by
    rcases yN.1 g with g|g
    .obtain⟨y,hy,rfl⟩:=yd.1 g;exact yd.2 ⟨y,F y hy,rfl⟩
    .simp at g;subst g;exact yd.2 ⟨_,d,rfl⟩
   have:=ss B L;simp at this;omega
  refine ad x v w' cnt' A d f.2 u ⟨G,T,?_,?_,_,H,λz g=>?_⟩ D M J I
  .rw[yo];exact wl.2 ⟨N,by simp,λa S b p e=>f.2 (by simp at p;rw[<-p,<-e];exact S)⟩
  .intro q n;rcases yN.1 n with n|n
   .exact F q n
   .simp at n;subst n;exact d
  .show (i (.int .i64 z)&&!(Lit.int .i64 z).sameKey (.int .i64 x))=_;rw[R z g,Wd];by_cases m:z=x
   .subst m;simp
   .have:((done++[(x,v)]).map (·.1)).contains z=(done.map (·.1)).contains z:=(by simp[m]);rw[this,zJ m];simp
theorem P4 (n:o.guard=none) (m x v) (t) (i:o.op=Op.mapUpdate t m x v)
 (K E) (j:P.underlying K=some (.int .i64)) (p:P.underlying t=some (.map K E)) (b) (l) (k) (val)
 (q:a.eval m=.map (some b)) (h:MapL P K w b l) (r:l.length<1000000) (s:a.eval x=.int .i64 k) (u:a.eval v=val) (y:InZ k)
 (z:∀w',MapL P K w' b (putZ l k val)->w.mapTurned w' b->wpList P ops Q rest (a.put o.dst undef) w'):
 wpList P ops Q (o::rest) a w:=by
 refine tQ n λg d=>?_;obtain⟨w',c,f,e⟩:=h.store j p r y val;unfold Oper.wp;simp[execOp,i,q,s,u,c,Result.andThen];exact d _ _ (z w' f e)
theorem RZ (n:o.guard=none) (m x) (t K) (i:o.op=Op.call {callee:=Callee.builtin Builtin.delete,args:=#[m,x],argTypes:=#[t,K]})
 (E) (j:P.underlying K=some (.int .i64)) (p:P.underlying t=some (.map K E)) (b) (l) (k)
 (q:a.eval m=.map (some b)) (h:MapL P K w b l) (r:a.eval x=.int .i64 k) (s:InZ k)
 (u:∀w',MapL P K w' b (delZ l k)->w.mapTurned w' b->wpList P ops Q rest (a.put o.dst (.tuple #[])) w'):
 wpList P ops Q (o::rest) a w:=by
 refine tQ n λg d=>?_;obtain⟨w',c,f,e⟩:=h.drop j p s o.type;unfold Oper.wp;simp[execOp,i,resolve,invoke,builtin,q,r,c,Result.andThen];exact d _ _ (u w' f e)
end
end Go.Proofs.YtpcedcnjofbgjaaGreatDoor
namespace Go.Proofs.YtpcedcnjofbgjaaGreatDoor
open Go.Proofs.Tryz Go.Shelf
def Tryz.lays137_ren : Go.Shelf.Ren:=⟨fun|137=>110|217=>150|266=>191|n=>n,fun|9=>9|5=>5|3=>3|n=>n,fun|n=>n⟩
theorem Tryz.lays137: Go.Proofs.Lays.n137 prog Tryz.lays137_ren:={
 mixed:=by kernel_rfl,
 f137:=func110.trans (zQ some (by kernel_rfl)),
 f217:=func150.trans (zQ some (by kernel_rfl)),
 f266:=func191.trans (zQ some (by kernel_rfl)),
 t3:=underlying3,
 a3:=isAgg3,
 z3:=sizeOf3,
 v3:=zeroValue3,
 t5:=underlying5,
 a5:=isAgg5,
 z5:=sizeOf5,
 v5:=zeroValue5,
 t9:=underlying9,
 a9:=isAgg9,
 z9:=sizeOf9,
 v9:=zeroValue9}
def Tryz.lays162_ren : Go.Shelf.Ren:=⟨fun|162=>184|232=>213|227=>214|234=>215|236=>216|228=>227|271=>228|151=>229|120=>240|197=>241|152=>242|260=>254|137=>110|119=>255|224=>256|225=>257|217=>150|266=>191|n=>n,fun|9=>9|4=>4|3=>3|5=>5|117=>277|116=>276|0=>0|124=>280|21=>21|105=>291|46=>105|119=>313|139=>316|138=>315|n=>n,fun|3=>1|4=>2|n=>n⟩
theorem Tryz.lays162: Go.Proofs.Lays.n162 prog Tryz.lays162_ren:={
 mixed:=by kernel_rfl,
 f119:=func255.trans (zQ some (by kernel_rfl)),
 f120:=func240.trans (zQ some (by kernel_rfl)),
 f137:=func110.trans (zQ some (by kernel_rfl)),
 f151:=func229.trans (zQ some (by kernel_rfl)),
 f152:=func242.trans (zQ some (by kernel_rfl)),
 f162:=func184.trans (zQ some (by kernel_rfl)),
 f197:=func241.trans (zQ some (by kernel_rfl)),
 f217:=func150.trans (zQ some (by kernel_rfl)),
 f224:=func256.trans (zQ some (by kernel_rfl)),
 f225:=func257.trans (zQ some (by kernel_rfl)),
 f227:=func214.trans (zQ some (by kernel_rfl)),
 f228:=func227.trans (zQ some (by kernel_rfl)),
 f232:=func213.trans (zQ some (by kernel_rfl)),
 f234:=func215.trans (zQ some (by kernel_rfl)),
 f236:=func216.trans (zQ some (by kernel_rfl)),
 f260:=func254.trans (zQ some (by kernel_rfl)),
 f266:=func191.trans (zQ some (by kernel_rfl)),
 f271:=func228.trans (zQ some (by kernel_rfl)),
 t0:=underlying0,
 a0:=isAgg0,
 z0:=sizeOf0,
 v0:=zeroValue0,
 t3:=underlying3,
 a3:=isAgg3,
 z3:=sizeOf3,
 v3:=zeroValue3,
 t4:=underlying4,
 a4:=isAgg4,
 z4:=sizeOf4,
 v4:=zeroValue4,
 t5:=underlying5,
 a5:=isAgg5,
 z5:=sizeOf5,
 v5:=zeroValue5,
 t9:=underlying9,
 a9:=isAgg9,
 z9:=sizeOf9,
 v9:=zeroValue9,
 t21:=underlying21,
 a21:=isAgg21,
 z21:=sizeOf21,
 v21:=zeroValue21,
 t46:=underlying105,
 a46:=isAgg105,
 z46:=sizeOf105,
 v46:=zeroValue105,
 t105:=underlying291,
 a105:=isAgg291,
 z105:=sizeOf291,
 v105:=zeroValue291,
 t116:=underlying276,
 a116:=isAgg276,
 z116:=sizeOf276,
 t117:=underlying277,
 a117:=isAgg277,
 z117:=sizeOf277,
 v117:=zeroValue277,
 t119:=underlying313,
 a119:=isAgg313,
 z119:=sizeOf313,
 t124:=underlying280,
 a124:=isAgg280,
 z124:=sizeOf280,
 v124:=zeroValue280,
 t138:=underlying315,
 a138:=isAgg315,
 z138:=sizeOf315,
 v138:=zeroValue315,
 t139:=underlying316,
 a139:=isAgg316,
 z139:=sizeOf316,
 v139:=zeroValue316,
 g3:=by kernel_rfl,
 g4:=by kernel_rfl}
end Go.Proofs.YtpcedcnjofbgjaaGreatDoor
namespace Go.Proofs.YtpcedcnjofbgjaaGreatDoor
open Go.Proofs.Tryz Go.RowKit
theorem LI (h n:Int) (b:0<=h) (d:h<256) (e:0<=n) (f:n<256):(((n-h).tmod 256+256)%256)=((farN h.toNat n.toNat)):=by
 unfold farN;have a:(n-h).tmod 256=n-h:=by
  by_cases c:0<=n-h
  .rw[Ck c];omega
  .have:n-h = -(h-n):=(by omega);rw[this,Int.neg_tmod,Ck (by omega)];omega
 rw[a];omega
theorem LB (h n) (w) (m:0<=h) (p:h<256) (q:0<=n) (r:n<256):
 Calls prog 221 #[(h:Int),(n:Int)] w λe w'=>e=.returned (farN h.toNat n.toNat:Int)/\w=w':=by
 have f:=Lib.hid (LI h n m p q r);have d: -256<=(n-h).tmod 256/\(n-h).tmod 256<=256:=by
  have e:=LI h n m p q r;have a:=qk (n-h) (b:=256) (by omega);have b: -256<(n-h).tmod 256:=by
   by_cases c:0<=n-h
   .have:=Int.tmod_nonneg 256 c;omega
   .have g:n-h = -(h-n):=(by omega);rw[g,Int.neg_tmod];have:=qk (h-n) (b:=256) (by omega);omega
  omega
 obtain⟨l,i⟩:=d;have j:=zW (n-h) (by omega);have k:=zW ((n-h).tmod 256+256) (by omega);go_enter func221,ntmps221;go_wp2;go_ret;rw[<-f.o];exact⟨rfl,rfl⟩
open Go.Sort
abbrev Rk:=Nat×Nat×Nat
def encK (x:Rk):List Value:=[.int .i64 ((x.1%256:Nat)),.slice (some ⟨x.2.1,0,none⟩) 64 x.2.2,.bool false]
def cfK (h:Nat) (x y:Rk):Int:=(farN h (x.1%256))-(farN h (y.1%256))
theorem SM (x):(encK x).length=3:=rfl
theorem Fh (x):∀v∈encK x,v.oneCell'=true:=by intro v a;simp[encK]at a;rcases a with rfl|rfl|rfl<;>rfl
theorem Ir (D h:Nat) (F:h<256) (x y) (W) (E:W.cell? (D,0)=some (.int .i64 h)):
 Calls prog 220 #[.agg (encK x).toArray,.agg (encK y).toArray,(D,())] W <|ρ (cfK h x y:Int) λw'=>∃q os',w'=grow (W.drewN q) os':=by
 obtain⟨a,k⟩:=zD (x.1%256);obtain⟨b,j⟩:=zD (y.1%256);have C:a<256:=by rw[<-k.o];omega
 have t:b<256:=by rw[<-j.o];omega
 unfold cfK encK;rw[k.o,j.o];obtain⟨u,c⟩:=zA x.2.1;obtain⟨v,f⟩:=zA x.2.2;obtain⟨A,g⟩:=zA y.2.1;obtain⟨z,d⟩:=zA y.2.2;rw[<-c.o,<-f.o,<-g.o,<-d.o];have l:=VL h a;have p:=VL h b;have i:=Lib.hid (λ(n:Nat) (B:n<256) w=>LB (h:Int) (n:Int) w (by omega) (by omega) (by omega) (by omega));simp only[yQ]at i;have m:D<W.heap.size:=zy E;have r:¬D=W.heap.size:=by omega
 have s:¬D=W.heap.size+1:=by omega
 go_enter func220,ntmps220
 go_wp2
 go_quiet ((go_at_call 221;exact Calls.quiet_of_same ((i.o _ (by assumption) _).mono λe w' h=>⟨h.1,h.2.symm⟩)))
 go_wp2;go_ret;exact⟨rfl,_,_,by rw[alloc_eq_grow,alloc_eq_grow,grow_grow];rfl⟩
end Go.Proofs.YtpcedcnjofbgjaaGreatDoor
namespace Go.Proofs.YtpcedcnjofbgjaaGreatDoor
open Go.Proofs.Tryz Go.ChangeShapes Go.WideShapes Go.ChangeAt Go.RowKit
theorem Tryz.own: ownKnob prog.godebug=none:=by kernel_rfl
theorem Tryz.laidOut: laidOutB prog=true:=by kernel_rfl
