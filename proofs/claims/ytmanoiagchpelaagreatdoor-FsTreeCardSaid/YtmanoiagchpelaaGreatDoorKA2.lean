import Derived.Test.YtmanoiagchpelaaGreatDoorKA0
import Derived.WalkKit
import Derived.Deep.WholeRow
import Derived.Orders
import Derived.Laws.CopyRow
import Derived.StillTailTactics
import Derived.Laws.CopyOwn
import Derived.Lib.Hide
set_option maxHeartbeats 0
set_option linter.all false
set_option maxRecDepth 100000
namespace Go.Proofs.YtmanoiagchpelaaGreatDoor
open Go.RowKit
variable {Q:Exit->Act->World->Prop} {a:Act} {d i len m n:Nat} {e t:TypeId} {k:IntKind} {o:Obj} {ops:Array Oper} {rest:List Oper} {s:Nat->Bool} {w:World} {xs ys:Array Value}
abbrev kf:=@run_loadVar_row
abbrev lH:=@grownCap_ge
abbrev oD:=@heap_setCell_other
abbrev pj:=@mem_ready
abbrev qG:=@size_zeroCells
abbrev rP:=@run_copy_row
abbrev ry:=@results_cell_row
abbrev sj:=@Oper.wp_mono
abbrev sp:=@run_loadCells_list
abbrev te:=@zero_of_info
abbrev tf:=@wpList_plain
abbrev uD:=@World.cell?_of_block
abbrev uJ:=@Sem.run_pure
abbrev uP:=@World.cell?_setCell_other
abbrev uW:=@World.ownsRow_made
abbrev uk:=@heap_alloc_old
abbrev vE:=@run_underlying
abbrev vG:=@run_storeCells_at
abbrev vH:=@heap_alloc2_old
abbrev vm:=@heap_alloc2_new
abbrev wM:=@cell_of_row
abbrev wN:=@World.cell?_alloc_lt
abbrev wX:=@Below.heap_alloc
abbrev x9:=@Below.refl
abbrev xB:=@Below.grown
abbrev xO:=@Sem.run_bind
abbrev xd:=@World.ownsRow_nil
abbrev xe:=@Result.andThen_ok
abbrev xh:=@setRow_other
abbrev xy:=@info_parts
abbrev yE:=@Below.heap_setCell
abbrev yG:=@wpList_store_row
abbrev yI:=@wpList_append_own
abbrev yS:=@wpList_load_row
abbrev yV:=@bodyPost_ret
abbrev yb:=@heap_setCell_same
abbrev yh:=@setRow_heap
abbrev zG:=@block_lt_of_cell
abbrev zQ:=@IntWalk.i64_in
abbrev zT:=@heap_alloc_new
abbrev za:=@Lib.hid
def b2 (b:Bool) (k:Nat):Nat:=if b then k else 0
def tM (f:Nat->Bool):Nat:=b2 (f 0) 1+b2 (f 1) 2+b2 (f 2) 4+b2 (f 3) 8+b2 (f 4) 16+b2 (f 5) 32+b2 (f 6) 64+b2 (f 7) 128
def tN (s:Nat->Bool) (i:Nat):Nat:=tM fun j=>s (8*i+j)
def enc (s:Nat->Bool):Array Value:=Array.ofFn (n:=32) fun i=>Value.int .u8 (tN s i.val)
theorem tP (s):(enc s).size=32:=by simp[enc]
theorem pY (s) (i) (h:i<32):(enc s)[i]?=some (.int .u8 (tN s i)):=by simp[enc,h]
theorem lW (s):(enc s).all (·.oneCell')=true:=by rw[we];intro v a;simp only[enc,Array.mem_ofFn]at a;obtain⟨i,rfl⟩:=a;rfl
theorem pJ (b) (k):b2 b k<=k:=by unfold b2;split<;>omega
theorem jH (f):tM f<256:=by unfold tM;have h:=pJ (f 0) 1;have d:=pJ (f 1) 2;have b:=pJ (f 2) 4;have i:=pJ (f 3) 8;have c:=pJ (f 4) 16;have g:=pJ (f 5) 32;have a:=pJ (f 6) 64;have e:=pJ (f 7) 128;omega
theorem Vi (s) (i):tN s i<256:=jH _
theorem VV {f g:Nat->Bool} (h:∀j,j<8->f j=g j):tM f=tM g:=by unfold tM;rw[h 0 (by omega),h 1 (by omega),h 2 (by omega),h 3 (by omega),h 4 (by omega),h 5 (by omega),h 6 (by omega),h 7 (by omega)]
def by8 (b0 b1 b2' b3 b4 b5 b6 b7:Bool):Nat:=b2 b0 1+b2 b1 2+b2 b2' 4+b2 b3 8+b2 b4 16+b2 b5 32+b2 b6 64+b2 b7 128
theorem Nb (f):tM f=by8 (f 0) (f 1) (f 2) (f 3) (f 4) (f 5) (f 6) (f 7):=rfl
theorem LC: ∀(k:Fin 8) (a b c d e f g h),(by8 a b c d e f g h).testBit k.val=[a,b,c,d,e,f,g,h].getD k.val false:=by decide +kernel
theorem QZ: ∀x:Fin 256,by8 (x.val.testBit 0) (x.val.testBit 1) (x.val.testBit 2) (x.val.testBit 3) (x.val.testBit 4) (x.val.testBit 5) (x.val.testBit 6) (x.val.testBit 7)=x.val:=by decide +kernel
theorem Zy (f) (k) (a:k<8):(tM f).testBit k=f k:=by
 have:=LC ⟨k,a⟩ (f 0) (f 1) (f 2) (f 3) (f 4) (f 5) (f 6) (f 7);rw[Nb,this]
 match k,a with
 | 0,_=>rfl
 | 1,_=>rfl
 | 2,_=>rfl
 | 3,_=>rfl
 | 4,_=>rfl
 | 5,_=>rfl
 | 6,_=>rfl
 | 7,_=>rfl
 | k+8,h=>omega
theorem Is (x k) (a:x<256) (b:8<=k):x.testBit k=false:=
 Nat.testBit_lt_two_pow (zo a (by have:2 ^ 8<=2 ^ k:=Nat.pow_le_pow_right (by omega) b;simpa using this))
theorem X5 (x) (f) (b:x<256) (h:∀k,k<8->x.testBit k=f k):x=tM f:=by
 apply Nat.eq_of_testBit_eq;intro k;by_cases a:k<8
 .rw[h k a,Zy f k a]
 .rw[Is x k b (by omega),Is _ k (jH f) (by omega)]
theorem Q4 (a b:Nat) (c:a<256) (d:b<256):bits .or .u8 a b=((a ||| b)):=
 (bits_nat .u8 8 (by decide) wraps_u8 a b c d).2
theorem Nm (a b:Nat) (c:a<256) (d:b<256):bits .and .u8 a b=((a &&& b)):=
 (bits_nat .u8 8 (by decide) wraps_u8 a b c d).1
theorem Ha (f g):bits .or .u8 (tM f) (tM g)=(tM (fun j=>f j||g j)):=by
 rw[Q4 _ _ (jH f) (jH g)]
 congr 1
 exact X5 _ _ (Nat.or_lt_two_pow (n:=8) (jH f) (jH g)) fun k a=>by rw[Nat.testBit_or,Zy f k a,Zy g k a]
theorem GH (f g):bits .andNot .u8 (tM f) (tM g)=(tM (fun j=>f j&&!g j)):=by
 have c:=jH f;have d:=jH g;have e:bits .andNot .u8 (tM f) (tM g)=((BitVec.ofNat 8 (tM f) &&& ~~~BitVec.ofNat 8 (tM g)).toNat):=by
  unfold bits;simp only[qP];rw[wraps_u8 _ (Int.natCast_nonneg _)]
  .rfl
  .have:=(BitVec.ofNat IntKind.u8.bits (tM f) &&& ~~~BitVec.ofNat IntKind.u8.bits (tM g)).isLt;have b:IntKind.u8.bits=8:=rfl;simp only[b]at this ⊢;omega
 rw[e]
 congr 1
 refine X5 _ _ (BitVec.isLt _) fun k a=>?_;have:(BitVec.ofNat 8 (tM f) &&& ~~~BitVec.ofNat 8 (tM g)).toNat.testBit k=(BitVec.ofNat 8 (tM f) &&& ~~~BitVec.ofNat 8 (tM g)).getLsbD k:=rfl;rw[this,BitVec.getLsbD_and,BitVec.getLsbD_not,BitVec.getLsbD_ofNat,BitVec.getLsbD_ofNat,Zy f k a,Zy g k a];simp[a]
theorem RH: ∀k:Fin 8,2 ^ k.val%256=tM (fun j=>decide (j=k.val)):=by decide +kernel
theorem WE (k) (a:k<8):((2:Int) ^ k%256)=(tM (fun j=>decide (j=k))):=by rw[<-RH ⟨k,a⟩];simp
theorem Na (f) (k) (d:k<8):bits .and .u8 (((tM f)) / 2 ^ k) 1=if f k then 1 else 0:=by
 have b:=jH f;have e:((tM f)) / 2 ^ k=((tM f >>> k):Int):=by rw[sG];simp
 have c:tM f >>> k<256:=by rw[sG];exact Nat.lt_of_le_of_lt (Nat.div_le_self _ _) b
 rw[e,show (1:Int)=((1:Nat):Int) from rfl,Nm _ 1 c (by omega)];have:tM f >>> k &&& 1=if f k then 1 else 0:=by
  have a:=Zy f k d;rw[Nat.testBit_eq_decide_div_mod_eq]at a;rw[Nat.and_one_is_mod,sG,<-a];by_cases h:tM f / 2 ^ k%2=1
  .simp[h]
  .have:tM f / 2 ^ k%2=0:=(by omega);simp[this]
 rw[this];split<;>rfl
theorem MI (x) (h:x<256):tM (fun j=>x.testBit j)=x:=QZ ⟨x,h⟩
def ins (s:Nat->Bool) (n:Nat):Nat->Bool:=fun m=>s m||decide (m=n)
def del (s:Nat->Bool) (n:Nat):Nat->Bool:=fun m=>s m&&!decide (m=n)
def join (s t:Nat->Bool):Nat->Bool:=fun m=>s m||t m
theorem VY {t:Nat->Bool} (h:∀j,j<8->s (8*i+j)=t (8*i+j)):tN s i=tN t i:=VV h
theorem gm (s t) (i) (f:i<32) (g:∀m,m / 8≠i->s m=t m):(enc s).setIfInBounds i (.int .u8 (tN t i))=enc t:=by
 apply xa;intro k;rw[yM];by_cases a:k<32
 .rw[pY t k a];by_cases e:i=k
  .subst e;simp[tP,f]
  .rw[zb e,pY s k a,VY fun j d=>g _ (by omega)]
 .have c:(enc s)[k]?=none:=by simp[tP];omega
  have b:(enc t)[k]?=none:=by simp[tP];omega
  rw[c,b];split<;>simp[tP]<;>omega
theorem Sx (s) (n) (c:n<256):(enc s).setIfInBounds (n / 8) (.int .u8 (bits .or .u8 (tN s (n / 8)) (2 ^ (n%8)%256)))=enc (ins s n):=by
 rw[WE _ (by omega)];unfold tN;rw[Ha];have e:tM (fun j=>s (8*(n / 8)+j)||decide (j=n%8))=tN (ins s n) (n / 8):=VV fun j b=>by
  unfold ins
  congr 2
  rw[eq_iff_iff];omega
 rw[e];exact gm s (ins s n) (n / 8) (by omega) fun m a=>by unfold ins;rw[zz (fun h:m=n=>a (by rw[h])),Bool.or_false]
theorem Sz (s) (n) (c:n<256):(enc s).setIfInBounds (n / 8) (.int .u8 (bits .andNot .u8 (tN s (n / 8)) (2 ^ (n%8)%256)))=enc (del s n):=by
 rw[WE _ (by omega)];unfold tN;rw[GH];have e:tM (fun j=>s (8*(n / 8)+j)&&!decide (j=n%8))=tN (del s n) (n / 8):=VV fun j b=>by
  unfold del
  congr 3
  rw[eq_iff_iff];omega
 rw[e];exact gm s (del s n) (n / 8) (by omega) fun m a=>by unfold del;rw[zz (fun h:m=n=>a (by rw[h])),Bool.not_false,Bool.and_true]
theorem KU {t:Nat->Bool} (h:∀m,m<256->s m=t m):enc s=enc t:=by
 apply xa;intro k;by_cases a:k<32
 .rw[pY s k a,pY t k a,VY fun j d=>h _ (by omega)]
 .have c:(enc s)[k]?=none:=by simp[tP];omega
  have b:(enc t)[k]?=none:=by simp[tP];omega
  rw[c,b]
def my (s r:Nat->Bool) (k:Nat):Nat->Bool:=fun m=>if m<8*k then r m else s m
theorem Sw (s r) (k) (c:k<32):(enc (my s r k)).setIfInBounds k (.int .u8 (tN r k))=enc (my s r (k+1)):=by
 have e:tN r k=tN (my s r (k+1)) k:=VY fun j b=>by unfold my;rw[ze (by omega)]
 rw[e];refine gm _ _ k c fun m a=>?_;unfold my;by_cases h:m<8*k
 .rw[ze h,ze (by omega)]
 .rw[zb h,zb (by omega)]
theorem MK (s r) (k):tN (my s r k) k=tN s k:=VY fun j a=>by unfold my;rw[zb (by omega)]
theorem QF (s r):enc (my s r 0)=enc s:=KU fun m _=>by unfold my;rw[zb (by omega)]
theorem O3 (s r):enc (my s r 32)=enc r:=KU fun m a=>by unfold my;rw[ze (by omega)]
theorem LA (s t) (k):bits .or .u8 (tN s k) (tN t k)=(tN (join s t) k):=Ha _ _
theorem OD: ∀k:Fin 8,(255:Nat).testBit k.val=true:=by decide
theorem LB (h:tN s i=255) (j) (a:j<8):s (8*i+j)=true:=by have:=Zy (fun j=>s (8*i+j)) j a;rw[show tM (fun j=>s (8*i+j))=255 from h]at this;rw[<-this];exact OD ⟨j,a⟩
variable {P : Program}
theorem I3 {t:TypeId} {d:TypeDesc} (h:P.underlying t=some d) (w):(isAgg t).run P w=.ok (match d with|.struct _|.array _ _=>true|_=>false) w:=by unfold isAgg;rw[xO,vE h w];cases d<;>simp
theorem Jv (h:(P.info? t).map (·.size)=some n) (w):(sizeOf t).run P w=.ok n w:=by
 cases a:P.info? t with
 | none=>simp[a]at h
 | some i=>simp[a]at h;simp[sizeOf,typeInfo,a,h]
theorem Jp (h:P.underlying t=some (.int k)) (cs) (off) (v) (a:cs[off]?=some v) (w):(part t cs off).run P w=.ok v w:=by unfold part;rw[xO,I3 h w];simp[a]
theorem LP {t:TypeId} {d:TypeDesc} (h:P.underlying t=some d) (hd:(match d with|.struct _|.array _ _=>true|_=>false)=true) {n:Nat} (hn:(P.info? t).map (·.size)=some n) (cs) (off) (w):
 (part t cs off).run P w=.ok (.agg (cs.extract off (off+n))) w:=by
 unfold part;rw[xO,I3 h w,hd];simp[Jv hn w]
theorem V0 (t e) (n) (ke) (cs) (k) (i:Int) (h:P.underlying t=some (.array n e)) (a:P.underlying e=some (.int ke)) (b:(P.info? e).map (·.size)=some 1)
 (c:0<=i) (d:i<n) (v) (f:cs[i.toNat]?=some v) (w):(Instr.index t (.agg cs) (.int k i)).run P w=.ok v w:=by
 simp only[Instr.index,asIntOf,xO,uJ,xe,vE h];rw[ze ⟨c,d⟩];simp only[xO,Jv b,xe,uq];exact Jp a cs _ v f w
theorem oC {o:Oper} (c:o.guard=none) (ty) (d:o.op=.alloc ty)
 (Z) (e:∀w,(zeroValue ty).run P w=.ok (.agg Z) w)
 (h:wpList P ops Q rest (a.put o.dst (w.heap.size,())) (w.alloc (.cells Z ty))):wpList P ops Q (o::rest) a w:=
 tf c fun _ b=>by unfold Oper.wp execOp;simp only[d,Instr.alloc,xO,e,xe,newVar,Value.cells];exact b _ _ h
theorem Je {o:Oper} (c:Region.wanted o (yielded ops a.tmps)=true)
 (h:∀K,(∀a w,wpList P ops Q rest a w->K a w)->o.wp P a w K Q):wpList P ops Q (o::rest) a w:=
 wpList_step fun K b=>by rw[ze c];exact h K b
theorem Ta {ops:Array Oper} {rest:List Oper} {o:Oper} {a:Act} {w:World} {Q:Exit->Act->World->Prop} (hw:Region.wanted o (yielded ops a.tmps)=true) (ty) (x) (ho:o.op=.load ty x)
 (g) (hx:a.eval x=.pointer (some ⟨g,0,none⟩)) (t) (cs) (fr) (d) (hg:w.heap[g]?=some (.cells cs t fr))
 (hu:P.underlying ty=some d) (hd:(match d with|.struct _|.array _ _=>true|_=>false)=true) (hi:(P.info? ty).map (·.size)=some cs.size)
 (h:wpList P ops Q rest (a.put o.dst (.agg cs)) w):wpList P ops Q (o::rest) a w:=
 Je hw fun _ b=>wp_load_row ty x ho g hx t cs fr d hg hu hd hi (b _ _ h)
theorem wy {w':World} (h:Below w w w') (a:w.heap[i]?=some o):w'.heap[i]?=some o:=
 (h.block _ (wW.1 a).1).trans a
theorem tA (a:w.heap[i]?=some o) (x):(w.alloc x).heap[i]?=some o:=
 (wX w x i (wW.1 a).1).trans a
theorem jX (a:w.heap[i]?=some o) (g) (cs) (b:i≠g):(w.setRow g cs).heap[i]?=some o:=
 (xh w g i cs b).trans a
theorem xR (a:w.heap[i]?=some o):i<w.heap.size:=(wW.1 a).1
theorem Below.step {w1 w2:World} (h:Below w w w1) (k:Below w1 w1 w2):Below w w w2:=h.trans (k.mono h.size)
abbrev zf:=@Below.step
def mM (xs ys:Array Value) (off n:Nat):Prop:=∀j,j<n->∃k a b,xs[off+j]?=some (.int k a)/\ys[off+j]?=some (.int k b)
def rx (xs ys:Array Value) (off:Nat):Nat->Bool
 | 0=>true
 | n+1=>rx xs ys off n&&(match xs[off+n]?,ys[off+n]? with|some (.int _ a),some (.int _ b)=>a==b|_,_=>false)
theorem JA (xs ys) (off m):∀n,rx xs ys off (m+n)=(rx xs ys off m&&rx xs ys (off+m) n)
 | 0=>by simp[rx]
 | n+1=>by rw[<-yC];simp only[rx];rw[JA xs ys off m n,Bool.and_assoc,yC]
theorem Gq (xs ys) (off m o):∀n,o+n<=m->rx (xs.extract off (off+m)) (ys.extract off (off+m)) o n=rx xs ys (off+o) n
 | 0,_=>rfl
 | n+1,h=>by
  simp only[rx];rw[Gq xs ys off m o n (by omega)];have e:∀a:Array Value,(a.extract off (off+m))[o+n]?=a[off+o+n]? :=fun a=>by
   rw[Array.getElem?_extract];by_cases b:o+n<min (off+m) a.size-off
   .rw[ze b,yC]
   .rw[zb b,eq_comm,yd (by omega)]
  rw[e xs,e ys]
theorem mM.extract {off o:Nat} (h:mM xs ys (off+o) n) (p:o+n<=m):mM (xs.extract off (off+m)) (ys.extract off (off+m)) o n:=fun j f=>by
 obtain⟨k,a,b,i,g⟩:=h j f;have e:∀(c:Array Value) v,c[off+o+j]?=some v->(c.extract off (off+m))[o+j]?=some v:=fun c v d=>by have l:=(wW.1 d).1;rw[Array.getElem?_extract,ze (by omega),<-yC];exact d
 exact⟨k,a,b,e xs _ i,e ys _ g⟩
def jD (P:Program) (d:Nat) (t:TypeId) (n:Nat):Prop:=
 ∀(w) (xs ys) (off),mM xs ys off n ->
  (do let a <-part t xs off;let b <-part t ys off;Op.equalIn d t a b).run P w=.ok (rx xs ys off n) w
theorem Jk (h:P.underlying t=some (.int k)):jD P (d+1) t 1:=fun w i g c j=>by obtain⟨l,a,b,f,e⟩:=j 0 (by omega);simp only[vC]at f e;simp only[xO,Jp h i c _ f w,Jp h g c _ e w,xe];rw[run_equalIn_int w d t l k a b h];simp[rx,f,e]
theorem JM {d:Nat} {e:TypeId} {n:Nat} (q:jD P d e n) (xs ys):∀(l s) (w),mM xs ys (s*n) (l*n) ->
 (forIn (List.range' s l) ((none,()):Option Bool×PUnit) fun i _=>(do
  let a <-part e xs (i*n)
  let b <-part e ys (i*n)
  let r <-Op.equalIn d e a b
  if (!r)=true then pure (ForInStep.done (some false,())) else pure (ForInStep.yield (none,())))).run P w
  = .ok (if rx xs ys (s*n) (l*n) then (none,()) else (some false,())) w
 | 0,s,w,_=>by simp[rx]
 | l+1,s,w,h=>by
  have c:(l+1)*n=n+l*n:=by rw[qL,Nat.one_mul,Nat.add_comm]
  rw[List.range'_succ,List.forIn_cons];have p:=q w xs ys (s*n) (fun j m=>h j (by rw[c];omega));have g:(do let a <-part e xs (s*n);let b <-part e ys (s*n);let r <-Op.equalIn d e a b;if (!r)=true then pure (ForInStep.done (some false,())) else pure (ForInStep.yield (none,())):Sem (ForInStep (Option Bool×PUnit))).run P w
   = ((do let a <-part e xs (s*n);let b <-part e ys (s*n);Op.equalIn d e a b).run P w).andThen fun r o=>((if (!r)=true then pure (ForInStep.done (some false,())) else pure (ForInStep.yield (none,())):Sem (ForInStep (Option Bool×PUnit)))).run P o:=by
   simp only[xO];cases (part e xs (s*n)).run P w<;>simp[Result.andThen];rename_i a k;cases (part e ys (s*n)).run P k<;>simp
  rw[xO,g,p];simp only[xe];rw[c,JA];by_cases f:rx xs ys (s*n) n=true
  .simp only[f,Bool.not_true,oQ,vX,uJ,xe,uf];have:=JM q xs ys l (s+1) w (fun j m=>by have:=h (n+j) (by rw[c];omega);rw[qL,Nat.one_mul,yC];exact this);rw[qL,Nat.one_mul]at this;exact this
  .simp only[tK]at f;simp only[f,Bool.not_false,vl,uJ,xe,Bool.false_and,oQ,vX]
theorem Gi (h:P.underlying t=some (.array len e)) (b:(P.info? e).map (·.size)=some n) (c:jD P d e n) (xs ys) (w)
 (f:mM xs ys 0 (len*n)):(Op.equalIn (d+1) t (.agg xs) (.agg ys)).run P w=.ok (rx xs ys 0 (len*n)) w:=by
 simp only[Op.equalIn,xO,vE h,xe,Jv b];rw[Std.Legacy.Range.forIn_eq_forIn_range'];have:=JM c xs ys len 0 w (by simpa using f);simp only[Std.Legacy.Range.size,Nat.sub_zero,ss,Nat.div_one];simp only[uL]at this;rw[this];by_cases a:rx xs ys 0 (len*n)=true
 .simp[a]
 .simp only[tK]at a;simp[a]
theorem Gd (h:P.underlying t=some (.array len e)) (g:(P.info? e).map (·.size)=some n) (i:(P.info? t).map (·.size)=some (len*n)) (j:jD P d e n):jD P (d+1) t (len*n):=fun w f c a b=>by simp only[xO,LP h rfl i,xe];rw[Gi h g j _ _ w (mM.extract (o:=0) (by simpa using b) (by omega)),Gq _ _ _ _ _ _ (by omega)];rfl
theorem GC {f g:Field} (h : P.underlying t = some (.struct #[f, g])) (H : P.stoodInHeld t = false) (I : f.name ≠ "_") (J : g.name ≠ "_")
 (C:f.offset=0) (D:g.offset=n) (E:jD P d f.type n) (F:jD P d g.type m) (xs ys) (w) (G:mM xs ys 0 (n+m)):
 (Op.equalIn (d+1) t (.agg xs) (.agg ys)).run P w=.ok (rx xs ys 0 (n+m)) w:=by
 have i:P.fieldsOf t=#[f,g]:=by simp[Program.fieldsOf,h]
 rw[run_equalIn_struct w d t xs ys (by rw[i];exact h) H,i];have e:=E w xs ys 0 (fun j y=>G j (by omega));have c:=F w xs ys n (fun j y=>by have:=G (n+j) (by omega);simpa using this);rw[JA];simp only[yO];simp only[xO]at e c;simp only[Op.eqFields,I,J,C,D,ne_eq,not_false_eq_true,vl,xO];cases u:(part f.type xs 0).run P w with
 | halt x q=>rw[u]at e;simp[Result.andThen]at e
 | ok a q=>
  rw[u]at e;simp only[xe]at e ⊢;cases s:(part f.type ys 0).run P q with
  | halt x z=>rw[s]at e;simp[Result.andThen]at e
  | ok b z=>
   rw[s]at e;simp only[xe]at e ⊢;rw[e];simp only[xe];by_cases o:rx xs ys 0 n=true
   .simp only[o,Bool.not_true,oQ,vX,uf];cases l:(part g.type xs n).run P w with
    | halt x r=>rw[l]at c;simp[Result.andThen]at c
    | ok B r=>
     rw[l]at c;simp only[xe,xO]at c ⊢;cases p:(part g.type ys n).run P r with
     | halt x v=>rw[p]at c;simp[Result.andThen]at c
     | ok A v=>
      rw[p]at c;simp only[xe]at c;rw[l];simp only[xe];rw[p];simp only[xe];rw[c];simp only[xe];by_cases k:rx xs ys n m=true
      .simp[k]
      .simp only[tK]at k;simp[k]
   .simp only[tK]at o;simp[o]
theorem Hu {xs ys:Array Value}:∀{n},mM xs ys 0 n->(rx xs ys 0 n=true↔∀j,j<n->xs[j]?=ys[j]?)
 | 0,_=>by simp[rx]
 | n+1,h=>by
  have i:=Hu (n:=n) (fun j g=>h j (by omega));obtain⟨k,a,b,d,c⟩:=h n (by omega);simp only[yO]at d c;simp only[rx,yL,yO,d,c,i,vx];constructor
  .rintro ⟨f,rfl⟩ j g;by_cases e:j=n
   .subst e;rw[d,c]
   .exact f j (by omega)
  .intro f;refine⟨fun j g=>f j (by omega),?_⟩;have:=f n (by omega);rw[d,c]at this;simpa using this
theorem LN (c:xs.size=n) (d:ys.size=n) (b:mM xs ys 0 n):rx xs ys 0 n=true↔xs=ys:=by
 rw[Hu b];constructor
 .intro h;apply xa;intro j;by_cases a:j<n
  .exact h j a
  .rw[yd (by omega),yd (by omega)]
 .rintro rfl j _;rfl
end Go.Proofs.YtmanoiagchpelaaGreatDoor
namespace Go.Proofs.YtmanoiagchpelaaGreatDoor
open Go.RowKit
variable {D l:List Int} {Q:Exit->Act->World->Prop} {X:Prop} {a:Act} {base g i j k n size:Nat} {c:Array Value} {d v:Value} {e t:TypeId} {fr:Nat×Nat} {o:Oper} {ops:Array Oper} {p:Int} {r:List (Int×Int)} {w w':World} {x:Int×Int} {xs:List Value}
def wh (w:World) (v:Value) (k n:Nat) (xs:List Value):Prop:=
 xs.length=n*k/\((n=0/\∃a cap,v=.slice a 0 cap)\/∃g off cap,v=.slice (some ⟨g,off,none⟩) n cap/\∀(j) (x),xs[j]?=some x->w.cell? ⟨g,off+j,none⟩=some x)
def ints (l:List Int):List Value:=l.map fun n=>Value.int .i64 n
def vT (w:World) (v:Value) (l:List Int):Prop:=wh w v 1 l.length (ints l)
theorem wh.below (h:wh w v k n xs) (l:Below w w w'):wh w' v k n xs:=by obtain⟨i,f⟩:=h;refine⟨i,f.imp id ?_⟩;rintro ⟨g,a,b,e,c⟩;exact⟨g,a,b,e,fun j x d=>(l.cell (zG (c j x d))).trans (c j x d)⟩
theorem wh.of_owns (h:w.ownsRow base e k v n xs):wh w v k n xs:=by
 obtain⟨o,l⟩:=h;refine⟨o,l.imp (fun ⟨a,b⟩=>⟨b,none,0,a⟩) ?_⟩;rintro ⟨g,d,f,i,_,m,_,_,_,p⟩;refine⟨g,0,d,i,fun j x c=>?_⟩;rw[yO,zC m];rw[<-p,zI]at c;split at c
 .simpa using c
 .cases c
theorem mu (l) (j) (a:j<l.length):(ints l)[j]?=some (.int .i64 (l[j])):=by simp[ints,a]
def badP (p:Int):Bool:=decide (p<0)||decide (256<=p)
def tY (l:List Int):Int:=if 8<l.length then 2 else if l.any badP then 1 else 0
def lK (x:Int×Int) (p:Int):Bool:=if x.1=0 then p==0 else p==x.1+x.2
def o8 (out:List (Int×Int)) (p:Int):List (Int×Int):=
 match out with
 | []=>[(p,1)]
 | x::r=>if lK x p then (x.1,x.2+1)::r else (p,1)::x::r
def ofR (l:List Int):List (Int×Int):=l.foldl o8 []
def ofE (l:List Int):List (Int×Int):=(ofR l).reverse
def wY (l:List (Int×Int)):List Value:=l.flatMap fun x=>[.int .i64 x.1,.int .i64 x.2]
theorem rN (l):(wY l).length=l.length*2:=by
 induction l with
 | nil=>rfl
 | cons x l a=>simp only[wY,xo,zm,yx,xS]at *;omega
theorem oZ (a b):wY (a++b)=wY a++wY b:=by simp[wY]
theorem NR (r) (x):(wY (r++[x]))[r.length*2]?=some (.int .i64 x.1)/\(wY (r++[x]))[r.length*2+1]?=some (.int .i64 x.2):=by
 rw[oZ];have h:=rN r;constructor
 .rw[zy (by omega),show r.length*2-(wY r).length=0 by omega];rfl
 .rw[zy (by omega),show r.length*2+1-(wY r).length=1 by omega];rfl
theorem Gv (r) (a b c):(wY (r++[(a,b)])).set (r.length*2+1) (.int .i64 c)=wY (r++[(a,c)]):=by rw[oZ,oZ];have h:=rN r;rw[vS _ _ (by omega),show r.length*2+1-(wY r).length=1 by omega];rfl
theorem Ps (p):o8 [] p=[(p,1)]:=rfl
theorem Pr (h:lK x p=true):o8 (x::r) p=(x.1,x.2+1)::r:=by simp[o8,h]
theorem Rh (h:lK x p=false):o8 (x::r) p=(p,1)::x::r:=by simp[o8,h]
theorem Z2 (w:World) (c) (t) (j) (u) (h:c.toList[j]?=some u):(w.alloc (.cells c t)).cell? ((⟨w.heap.size,0,none⟩:Addr).add j)=some u:=by
 have a:(⟨w.heap.size,0,none⟩:Addr).add j=⟨w.heap.size,j,none⟩:=by unfold Addr.add;split<;>simp_all
 rw[a,wM _ _ j c t (0,0) (zT w _)];simpa using h
theorem tB (h:w.ownsRow base e size v n xs) (k:Below w w w'):w'.ownsRow base e size v n xs:=by
 obtain⟨i,b⟩:=h;refine⟨i,?_⟩;rcases b with b|⟨g,c,a,d,j,f,r⟩
 .exact zr b
 .exact zu ⟨g,c,a,d,j,wy k f,r⟩
theorem tV (h:w.ownsRow base e size v n xs):
 ∃q cap,v=.slice q n cap/\(0<n->∃g,q=some ⟨g,0,none⟩/\base<=g/\∀(j) (x),xs[j]?=some x->w.cell? ⟨g,j,none⟩=some x):=by
 obtain⟨k,⟨rfl,c⟩|⟨g,cap,b,rfl,i,d,_,_,_,f⟩⟩:=h
 .exact⟨none,0,by rw[c],fun h=>by omega⟩
 .refine⟨_,cap,rfl,fun _=>⟨g,rfl,i,fun j x a=>?_⟩⟩;rw[zC d];rw[<-f,zI]at a;split at a
  .simpa using a
  .cases a
theorem Wz (l) (k) (hk):(wY l)[k*2]?=some (.int .i64 l[k].1)/\(wY l)[k*2+1]?=some (.int .i64 l[k].2):=by
 induction l generalizing k with
 | nil=>simp at hk
 | cons x l b=>
  cases k with
  | zero=>simp[wY]
  | succ k=>
   have:=b k (by simpa using hk);have a:(k+1)*2=k*2+1+1:=(by omega);rw[a];simp only[wY,xo,tJ,yU,zl,List.getElem_cons_succ]at *
   exact this
def sE (ns:List Int):ByteArray:=ns.foldl (fun r n=>r.push (UInt8.ofNat n.toNat)) ByteArray.empty
theorem Yh {P:Program} (w) (src dst e) (g off cap n) (ns) (c:ns.length=n) (d:P.underlying src=some (.slice e)) (f:P.underlying e=some (.int .u8)) (h:P.underlying dst=some .string)
 (i:∀(j) (v),(ns.map (Value.int .u8))[j]?=some v->w.cell? ⟨g,off+j,none⟩=some v):
 (convert src dst (.slice (some ⟨g,off,none⟩) n cap)).run P w=.ok (.string (sE ns)) w:=by
 subst c;rw[run_convert_bytes_string w src dst e _ _ _ d f h];refine run_bytesToString w ⟨g,off,none⟩ ns.length cap ns ?_;have:=sp (P:=P) w ⟨g,off,none⟩ (ns.map (Value.int .u8)) (fun j v b=>by
  have a:(⟨g,off,none⟩:Addr).add j=⟨g,off+j,none⟩:=by unfold Addr.add;split<;>simp_all
  rw[a];exact i j v b)
 rw[yp]at this;exact this
def okR (n:Nat) (out:List (Int×Int)):Prop:=∀x,x∈out->0<=x.1/\x.1<=255/\1<=x.2/\x.2<=n
theorem MT {out:List (Int×Int)} (h:okR n out) (p) (b:0<=p) (c:p<=255):okR (n+1) (o8 out p):=by
 intro x a;cases out with
 | nil=>
  simp only[o8,xt]at a;subst a;simp only;omega
 | cons y r=>
  simp only[o8]at a;split at a
  .rcases yD.1 a with rfl|a
   .have:=h y (by simp);simp only;omega
   .have:=h x (by simp[a]);omega
  .rcases yD.1 a with rfl|a
   .simp only;omega
   .have:=h x a;omega
theorem Pt (out) (p):(o8 out p).length<=out.length+1:=by
 cases out with
 | nil=>simp[o8]
 | cons y r=>simp only[o8];split<;>simp
theorem XJ (l) (p):ofR (l++[p])=o8 (ofR l) p:=by simp[ofR]
theorem li : ∀(n) (l),l.length=n->(∀p,p∈l->0<=p/\p<=255)->okR n (ofR l)/\(ofR l).length<=n
 | 0,l,a,_=>by have  :=yR.1 a;subst this;exact⟨fun x f=>by simp[ofR]at f,by simp[ofR]⟩
 | n+1,l,a,h=>by obtain⟨m,p,rfl⟩:∃m p,l=m++[p]:=⟨l.dropLast,l.getLast (by intro e;subst e;simp at a),(List.dropLast_concat_getLast _).symm⟩;have d:=li n m (by simpa using a) (fun q c=>h q (by simp[c]));have b:=h p (by simp);rw[XJ];exact⟨MT d.1 p b.1 b.2,by have:=Pt (ofR m) p;omega⟩
def u8s (l:List Int):List Value:=l.map fun n=>Value.int .u8 n
def vQ (w:World) (v:Value) (l:List Int):Prop:=wh w v 1 l.length (u8s l)
theorem qg (l) (j) (a:j<l.length):(u8s l)[j]?=some (.int .u8 (l[j])):=by simp[u8s,a]
theorem uo (l):(u8s l).length=l.length:=by simp[u8s]
theorem pC (a b):u8s (a++b)=u8s a++u8s b:=by simp[u8s]
theorem oV (l) (n):u8s (l.take n)=(u8s l).take n:=by simp[u8s]
theorem mL (l) (n):u8s (l.drop n)=(u8s l).drop n:=by simp[u8s]
theorem mG (l):∀v∈u8s l,v.oneCell'=true:=by intro v a;simp only[u8s,zU]at a;obtain⟨b,_,rfl⟩:=a;rfl
def upd (D:Nat->Bool) (i:Nat):Nat->Bool:=fun j=>D j||decide (j=i)
theorem Vs (D) (i):upd D i i=true:=by simp[upd]
theorem qy {D:Nat->Bool} (h:j≠i):upd D i j=D j:=by simp[upd,h]
theorem lh {D:Nat->Bool} (h:upd D i j=true) (a:j≠i):D j=true:=by rwa [qy a]at h
def left : List Bool->Nat
 | []=>0
 | b::l=>(if b then 0 else 1)+left l
theorem XP : ∀(l) (i),l[i]?=some false->left (l.set i true)+1=left l
 | [],i,h=>by simp at h
 | b::l,0,h=>by simp at h;subst h;simp[left,Nat.add_comm]
 | b::l,i+1,h=>by have:=XP l i (by simpa using h);simp only[yf,left];omega
theorem WI : ∀(l),left l=0->∀(i:Nat) (b),l[i]?=some b->b=true
 | [],_,i,b,h=>by simp at h
 | c::l,a,0,b,h=>by
  simp at h;subst h;cases c
  .simp[left]at a
  .rfl
 | c::l,a,i+1,b,h=>by refine WI l ?_ i b (by simpa using h);simp only[left]at a;omega
def fY (l:List Oper):Bool:=l.zipIdx.all fun (o,i)=>o.after.all fun e=> !Region.binds .any e||decide (e.on<i)
section
variable {P : Program} {l : List Oper} {Q : Exit->Act->World->Prop}
theorem Q8 (p:fY l=true) (L) (q:L.size=l.length) (h:Region.ready .any l.toArray L=[]):∀n i,i<n->i<l.length->L.getD i false=true:=by
 intro n
 induction n with
 | zero=>intro i o;omega
 | succ n j=>
  intro i o a;cases f:L.getD i false with
  | true=>rfl
  | false=>
   exfalso;have d:i∈Region.ready .any l.toArray L:=by
    refine pj.2 ⟨?_,l[i],by simp[a],fun e g c=>?_⟩
    .have b:i<L.size:=(by omega);simp[b]at f ⊢;exact f
    .have m:=(yW.1 p) (l[i],i) (List.mk_mem_zipIdx_iff_getElem?.2 (by simp[a]));have k:=(we.1 m) e g;simp[c]at k;exact j e.on (by omega) (by omega)
   rw[h]at d;cases d
theorem Pe (G:fY l=true) (I:(Nat->Bool)->Act->World->Prop)
 (F:∀(D) (a) (w),I D a w->∀(i) (o),l[i]?=some o->D i=false->(∀e∈o.after,Region.binds .any e=true->D e.on=true) ->
  if Region.wanted o (yielded l.toArray a.tmps) then o.wp P a w (fun a' w'=>I (upd D i) a' w') Q else I (upd D i) (a.put o.dst undef) w)
 (E:∀(D) (a) (w),I D a w->(∀i,i<l.length->D i=true)->Q .normal a w):
 ∀(fuel) (L) (a) (w),L.size=l.length->left L.toList<=fuel->I (fun j=>L.getD j false) a w->wpAny P .any l.toArray Q fuel L a w:=by
 intro fuel
 induction fuel with
 | zero=>
  intro L a w s z p;have x:∀i,i<l.length->L.getD i false=true:=fun i q=>by have b:i<L.size:=(by omega);have:=WI L.toList (by omega) i L[i] (by simp[b]);simp[b,this]
  refine⟨?_,E _ _ _ p x⟩;cases k:Region.ready .any l.toArray L with
  | nil=>rfl
  | cons i y=>
   exfalso;have B:i∈Region.ready .any l.toArray L:=(by rw[k];simp);obtain⟨g,o,m,_⟩:=pj.1 B;have n:i<l.length:=(by simpa using (wW.1 m).1);have r:=x i n;have b:i<L.size:=(by omega);simp[b]at g r;rw[g]at r;cases r
 | succ fuel C=>
  intro L a w s z p;refine⟨fun k=>E _ _ _ p fun i q=>Q8 G L s k (i+1) i (by omega) q,fun i q=>?_⟩;obtain⟨g,o,m,A⟩:=pj.1 q;have n:i<l.length:=by simpa using (wW.1 m).1
  have b:i<L.size:=by omega
  have f:=F _ a w p i o (by simpa using m) (by simp[b]at g;simp[b,g]) A;have d:L.toList[i]?=some false:=by simp[b]at g;simp[b,g]
  have c:∀a' w',I (upd (fun j=>L.getD j false) i) a' w'->wpAny P .any l.toArray Q fuel (L.setIfInBounds i true) a' w':=fun a' w' u=>by
   refine C _ a' w' (by simpa using s) ?_ ?_
   .have:=XP L.toList i d;simp only[wV];omega
   .have e:(fun j=>(L.setIfInBounds i true).getD j false)=upd (fun j=>L.getD j false) i:=by
     funext j
     unfold upd;by_cases v:j=i
     .subst v;simp[b]
     .rw[getD_set_ne false (fun h=>v h.symm)];simp[v]
    rw[e];exact u
  unfold wpOp;rw[m];simp only;split
  .rename_i t;rw[ze t]at f;exact zr (sj c f)
  .rename_i t;rw[zb t]at f;exact c _ _ f
theorem Jr {id:Nat} (f:P.follows .mixedOrders=true) (g:fY l=true) (I:(Nat->Bool)->Act->World->Prop)
 (h:I (fun _=>false) a w.drew)
 (c:∀(D) (a) (w),I D a w->∀(i) (o),l[i]?=some o->D i=false->(∀e∈o.after,Region.binds .any e=true->D e.on=true) ->
  if Region.wanted o (yielded l.toArray a.tmps) then o.wp P a w (fun a' w'=>I (upd D i) a' w') Q else I (upd D i) (a.put o.dst undef) w)
 (d:∀(D) (a) (w),I D a w->(∀i,i<l.length->D i=true)->Q .normal a w):(Code.region id l.toArray true).wp P Q a w:=by
 refine wp_region_any f (Pe g I c d _ _ _ _ (by simp) ?_ ?_)
 .have:∀n,left (List.replicate n false)=n:=fun n=>by
   induction n with
   | zero=>rfl
   | succ n b=>rw[ug];simp only[left,b];simp;omega
  simp[this]
 .have e:(fun j=>(Array.replicate l.toArray.size false).getD j false)=fun _=>false:=by
   funext j
   simp only[xN,Array.getElem?_replicate];split<;>rfl
  rw[e];exact h
end
section
variable {P : Program} {o : Oper} {a : Act} {w : World} {K : Act->World->Prop} {Q : Exit->Act->World->Prop}
theorem UG (b:o.guard=none) (h:o.wp P a w K Q):if Region.wanted o (yielded ops a.tmps) then o.wp P a w K Q else X:=by rw[ze (by simp[Region.wanted,b])];exact h
theorem qD (x) (b:o.op=.move x) (h:K (a.put o.dst (a.eval x)) w):o.wp P a w K Q:=by unfold Oper.wp execOp;simp only[b];exact h
theorem Jm (x) (b:o.op=.assign x) (h:K (a.put o.dst (a.eval x)) w):o.wp P a w K Q:=by unfold Oper.wp execOp;simp only[b];exact h
end
section
variable {P : Program}
theorem JB (w) (g off) (t ty) (cs A) (fr) (d) (hg:w.heap[g]?=some (.cells cs t fr)) (hA:∀j,j<A.size->cs[off+j]?=A[j]?)
 (hu:P.underlying ty=some d) (hd:(match d with|.struct _|.array _ _=>true|_=>false)=true) (hi:(P.info? ty).map (·.size)=some A.size):
 (loadVar ty ⟨g,off,none⟩).run P w=.ok (.agg A) w:=by
 have e:=
  sp (P:=P) w ⟨g,off,none⟩ A.toList (fun j v f=>by have a:(⟨g,off,none⟩:Addr).add j=⟨g,off+j,none⟩:=(by unfold Addr.add;split<;>simp_all);have h:=(zJ.1 f).1;rw[a,wM w g _ cs t fr hg,hA j (by simpa using h)];simpa using f)
 cases c:P.info? ty with
 | none=>simp[c]at hi
 | some i=>
  have k:i.size=A.size:=by simpa[c]using hi
  have b:(isAgg ty).run P w=.ok true w:=by unfold isAgg;rw[xO,vE hu w];cases d<;>simp_all
  simp only[yv,Array.toArray_toList]at e;simp[loadVar,xO,b,sizeOf,typeInfo,c,k,e]
theorem LE {o:Oper} {a:Act} {w:World} {K:Act->World->Prop} {Q:Exit->Act->World->Prop} (ty) (x) (ho:o.op=.load ty x)
 (g off) (hx:a.eval x=.pointer (some ⟨g,off,none⟩)) (t) (cs A) (fr) (d) (hg:w.heap[g]?=some (.cells cs t fr)) (hA:∀j,j<A.size->cs[off+j]?=A[j]?)
 (hu:P.underlying ty=some d) (hd:(match d with|.struct _|.array _ _=>true|_=>false)=true) (hi:(P.info? ty).map (·.size)=some A.size)
 (h:K (a.put o.dst (.agg A)) w):o.wp P a w K Q:=by
 unfold Oper.wp execOp;simp only[ho,hx,Instr.loadAt,Instr.sureAddr,xO,uJ,xe,JB w g off t ty cs A fr d hg hA hu hd hi];exact h
theorem pZ {ops:Array Oper} {rest:List Oper} {o:Oper} {a:Act} {w:World} {Q:Exit->Act->World->Prop} (hw:Region.wanted o (yielded ops a.tmps)=true) (ty) (x) (ho:o.op=.load ty x)
 (g off) (hx:a.eval x=.pointer (some ⟨g,off,none⟩)) (t) (cs A) (fr) (d) (hg:w.heap[g]?=some (.cells cs t fr)) (hA:∀j,j<A.size->cs[off+j]?=A[j]?)
 (hu:P.underlying ty=some d) (hd:(match d with|.struct _|.array _ _=>true|_=>false)=true) (hi:(P.info? ty).map (·.size)=some A.size)
 (h:wpList P ops Q rest (a.put o.dst (.agg A)) w):wpList P ops Q (o::rest) a w:=
 Je hw fun _ b=>LE ty x ho g off hx t cs A fr d hg hA hu hd hi (b _ _ h)
theorem GJ (w) (g off) (t ty) (old A B) (e:w.heap[g]?=some (.cells old t)) (d:(P.info? ty).map (·.size)=some A.size)
 (h:off+A.size<=old.size) (f:A.all (·.oneCell')=true) (hB:(old.toList.take off++A.toList++old.toList.drop (off+A.size)).toArray=B):
 (storeVar ty ⟨g,off,none⟩ (.agg A)).run P w=.ok () (w.setRow g B):=by
 have:=vG P g off t A.toList 0 old w e (by simp;omega) (fun v b=>(we.1 f) v (by simpa using b));simp only[vC,yv]at this;rw[hB]at this;cases a:P.info? ty with
 | none=>simp[a]at d
 | some i=>
  have c:A.size=i.size:=by simp[a]at d;omega
  simp[storeVar,sizeOf,typeInfo,a,Value.cells,c,this]
theorem Hh {K:Act->World->Prop} (ty) (x y) (c:o.op=.store ty x y)
 (g off) (A) (d:a.eval x=.pointer (some ⟨g,off,none⟩)) (e:a.eval y=.agg A)
 (t) (old B) (f:w.heap[g]?=some (.cells old t)) (i:(P.info? ty).map (·.size)=some A.size)
 (b:off+A.size<=old.size) (j:A.all (·.oneCell')=true) (hB:(old.toList.take off++A.toList++old.toList.drop (off+A.size)).toArray=B)
 (h:K (a.put o.dst undef) (w.setRow g B)):o.wp P a w K Q:=by
 unfold Oper.wp execOp;simp only[c,d,e,Instr.storeAt,Instr.sureAddr,xO,uJ,xe,GJ w g off t ty old A B f i b j hB];exact h
theorem jI {rest:List Oper} (d:o.guard=none) (ty) (x y) (e:o.op=.store ty x y)
 (g off) (A) (f:a.eval x=.pointer (some ⟨g,off,none⟩)) (i:a.eval y=.agg A)
 (t) (old B) (j:w.heap[g]?=some (.cells old t)) (k:(P.info? ty).map (·.size)=some A.size)
 (c:off+A.size<=old.size) (l:A.all (·.oneCell')=true) (hB:(old.toList.take off++A.toList++old.toList.drop (off+A.size)).toArray=B)
 (h:wpList P ops Q rest (a.put o.dst undef) (w.setRow g B)):wpList P ops Q (o::rest) a w:=
 tf d fun _ b=>Hh ty x y e g off A f i t old B j k c l hB (b _ _ h)
theorem Gp {ops:Array Oper} {w:World} {Q:Act->Prop} {rest:List Oper} {o:Oper} {a:Act} (hw:Region.wanted o (yielded ops a.tmps)=true) (ty) (x) (ho:o.op=.load ty x)
 (g off) (hx:a.eval x=.pointer (some ⟨g,off,none⟩)) (t) (cs A) (fr) (d) (hg:w.heap[g]?=some (.cells cs t fr)) (hA:∀j,j<A.size->cs[off+j]?=A[j]?)
 (hu:P.underlying ty=some d) (hd:(match d with|.struct _|.array _ _=>true|_=>false)=true) (hi:(P.info? ty).map (·.size)=some A.size)
 (h:wpStill P ops w Q rest (a.put o.dst (.agg A))):wpStill P ops w Q (o::rest) a:=by
 unfold wpStill;rw[ze hw];unfold Oper.still execOp;simp only[ho,hx,Instr.loadAt,Instr.sureAddr,xO,uJ,xe,JB w g off t ty cs A fr d hg hA hu hd hi];exact⟨rfl,h⟩
theorem Rz (A:Array Value):∀j,j<A.size->A[0+j]?=A[j]? :=fun j _=>by rw[yO]
end
theorem ret_i {k:IntKind} {a b:Int} (h:a=b):Ending.returned (.int k a)=.returned (.int k b):=by rw[h]
structure yQ (F:Nat->Prop) (w w':World):Prop where
 os:w'.os=w.os
 tape:w'.tape=w.tape
 output:w'.output=w.output
 size:w.heap.size<=w'.heap.size
 block:∀i,i<w.heap.size->¬F i->w'.heap[i]?=w.heap[i]?
section
variable {F F1 : Nat->Prop} {w w1 w2 w' : World}
theorem yQ.refl (F) (w):yQ F w w:=⟨rfl,rfl,rfl,zL,fun _ _ _=>rfl⟩
theorem yQ.of_below (h:Below w w w'):yQ F w w':=⟨h.os,h.tape,h.output,h.size,fun i a _=>h.block i a⟩
theorem yQ.trans (h:yQ F w w1) (k:yQ F1 w1 w2) (e:∀i,F1 i->F i\/w.heap.size<=i):yQ F w w2:=
 ⟨k.os.trans h.os,k.tape.trans h.tape,k.output.trans h.output,zt h.size k.size,fun i b c=>
  (k.block i (zo b h.size) (fun d=>by
   rcases e i d with a|a
   .exact c a
   .omega)).trans (h.block i b c)⟩
theorem yQ.step (h:yQ F w w1) (k:yQ F w1 w2):yQ F w w2:=h.trans k fun _ a=>zr a
theorem yQ.mono (h:yQ F w w') (d:∀i,i<w.heap.size->F i->F1 i):yQ F1 w w':=
 ⟨h.os,h.tape,h.output,h.size,fun i a c=>h.block i a fun b=>c (d i a b)⟩
theorem yQ.setRow (b:F g) (cs):yQ F w (w.setRow g cs):=
 ⟨rfl,rfl,rfl,by simp,fun i _ a=>xh w g i cs (fun e=>a (by rw[e];exact b))⟩
theorem yQ.setCell {p:Addr} (b:F p.block) (u):yQ F w (w.setCell p u):=
 ⟨rfl,rfl,rfl,by simp[World.setCell],fun i _ a=>yE w p u i (fun e=>a (by rw[e];exact b))⟩
theorem yQ.alloc (o):yQ F w (w.alloc o):=yQ.of_below (zB.alloc zL _)
theorem yQ.drew (h:yQ F w w'):yQ F w w'.drew:=⟨h.os,h.tape,h.output,h.size,h.block⟩
theorem yQ.grown {row:Option Nat} (h:w.grownBy w' row) (c:∀r,row=some r->F r):yQ F w w':=
 ⟨h.os,h.tape,h.output,h.size,fun i a b=>h.block i a (fun e=>b (c i e.symm))⟩
theorem yQ.to_below {B:Nat} (h:yQ F w w') (c:∀i,F i->B<=i) (hB:B<=w.heap.size):Below B w w':=
 ⟨h.os,h.tape,h.output,h.size,fun i b=>h.block i (by omega) fun a=>by have:=c i a;omega⟩
end
structure Dk where
 S:List Int
 N:List Int
 W:List (Nat×List Int)
 fu:Int
def mp (E:List (Nat×Value)):List Value:=E.flatMap fun x=>[.int .i64 x.1,x.2]
theorem Ge (a b):mp (a++b)=mp a++mp b:=by simp[mp]
theorem Ib (l) (k) (hk):(mp l)[k*2]?=some (.int .i64 (l[k].1))/\(mp l)[k*2+1]?=some l[k].2:=by
 induction l generalizing k with
 | nil=>simp at hk
 | cons x l a=>
  cases k with
  | zero=>simp[mp]
  | succ k=>
   have:=a k (by simpa using hk);simp only[mp,xo,tJ,yU]at this ⊢;rw[show (k+1)*2=k*2+1+1 by omega,show k*2+1+1+1=(k*2+1)+1+1 by omega];simpa using this
def jd (w:World) (F:Nat->Prop) (gs gn:Nat) (v:Value) (D:List Int):Prop:=
 ∃g cap cur,v=.slice (some ⟨g,0,none⟩) 64 cap/\D.length=64/\F g/\g≠gs/\g≠gn/\w.heap[g]?=some (.cells cur 5)/\cur.toList.take 64=u8s D
structure Lies (w:World) (gd gs gn:Nat) (wt:Value) (E:List (Nat×Value)) (st:Dk) (L k:Nat) (F:Nat->Prop):Prop where
 fd:F gd
 fs:F gs
 fn:F gn
 ne:gs≠gn
 hd:w.heap[gd]?=some (.cells #[(gs,0,L,L),(gn,0,L,L),wt,st.fu] 150)
 hs:w.heap[gs]?=some (.cells (u8s st.S).toArray 5 (0,0))
 hn:w.heap[gn]?=some (.cells (u8s st.N).toArray 5 (0,0))
 ls:st.S.length=L
 ln:st.N.length=L
 hL:L=64*k
 k0:16<=k
 k1:k<=256
 own:w.ownsRow 0 152 2 wt E.length (mp E)
 fw:∀b,wt.ownBlock=some b->F b
 len:E.length=st.W.length
 small:E.length<=1000000
 ent:∀(i n:Nat) (v:Value),E[i]?=some (n,v)->n<k/\∃D,st.W[i]?=some (n,D)/\jd w F gs gn v D
 fin:∀i,F i->i<w.heap.size
 f0: -1<=st.fu
 f1:st.fu<=1000000
def uS (w:World) (d:Value) (st:Dk) (k:Nat) (F:Nat->Prop):Prop:=
 ∃gd gs gn wt E L,d=.pointer (some ⟨gd,0,none⟩)/\Lies w gd gs gn wt E st L k F
section
variable {w w' : World} {gd gs gn : Nat} {wt : Value} {E : List (Nat×Value)} {st : Dk} {L k : Nat} {F : Nat->Prop}
theorem tC {g':Nat} {c':Array Value} {t':TypeId} {f f':Nat×Nat} (h:w.heap[g]?=some (.cells c t f)) (b:w.heap[g']?=some (.cells c' t' f')) (d:t≠t'):g≠g':=by rintro rfl;rw[h]at b;injection b with b;injection b with _ a _;exact d a
theorem qb {cs:Array Value} (h:w.ownsRow base e size v n xs) (j:w.heap[g]?=some (.cells cs t fr)) (i:e≠t):v.ownBlock≠some g:=by
 rcases h.2 with⟨rfl,_⟩|⟨f,d,a,rfl,_,c,_⟩
 .simp[Value.ownBlock]
 .intro b;have:f=g:=by simpa[Value.ownBlock]using b
  subst this;exact tC c j i rfl
theorem oW (h:w.ownsRow base e size v n xs) (k:∀b,v.ownBlock=some b->w'.heap[b]?=w.heap[b]?):w'.ownsRow base e size v n xs:=by
 obtain⟨i,c⟩:=h;refine⟨i,?_⟩;rcases c with c|⟨g,d,a,rfl,j,f,r⟩
 .exact zr c
 .exact zu ⟨g,d,a,rfl,j,(k g rfl).trans f,r⟩
theorem jd.keep {F':Nat->Prop} (h:jd w F gs gn v D) (m:∀i c,F i->i≠gs->i≠gn->w.heap[i]?=some (.cells c 5)->w'.heap[i]?=w.heap[i]?) (n:∀i,F i->F' i):jd w' F' gs gn v D:=by obtain⟨g,b,a,rfl,l,d,j,e,f,k⟩:=h;exact⟨g,b,a,rfl,l,n _ d,j,e,(m g a d j e f).trans f,k⟩
theorem Lies.ne_d (h:Lies w gd gs gn wt E st L k F):gd≠gs/\gd≠gn/\wt.ownBlock≠some gd/\wt.ownBlock≠some gs/\wt.ownBlock≠some gn:=
 ⟨tC h.hd h.hs (by decide),tC h.hd h.hn (by decide),qb h.own h.hd (by decide),qb h.own h.hs (by decide),qb h.own h.hn (by decide)⟩
theorem Lies.keep (h:Lies w gd gs gn wt E st L k F) (g:∀i,F i->w'.heap[i]?=w.heap[i]?) (j:w.heap.size<=w'.heap.size):Lies w' gd gs gn wt E st L k F:=
 {h with
  hd:=(g _ h.fd).trans h.hd
  hs:=(g _ h.fs).trans h.hs
  hn:=(g _ h.fn).trans h.hn
  own:=oW h.own fun b e=>g b (h.fw b e)
  ent:=fun i n v a=>by obtain⟨d,D,c,f⟩:=h.ent i n v a;exact⟨d,D,c,f.keep (fun i _ a _ _ _=>g i a) fun _ a=>a⟩
  fin:=fun i a=>zo (h.fin i a) j}
theorem uS.keep (h:uS w d st k F) {G:Nat->Prop} (g:yQ G w w') (j:∀i,F i->¬G i):uS w' d st k F:=by obtain⟨c,e,b,f,E,L,rfl,h⟩:=h;exact⟨c,e,b,f,E,L,rfl,h.keep (fun i a=>g.block i (h.fin i a) (j i a)) g.size⟩
theorem uS.below (h:uS w d st k F) (a:Below w w w'):uS w' d st k F:=
 h.keep (G:=fun _=>False) (yQ.of_below a) (fun _ _ h=>h)
theorem uS.fin (h:uS w d st k F):∀i,F i->i<w.heap.size:=by obtain⟨b,c,a,e,E,L,rfl,h⟩:=h;exact h.fin
theorem jW (h:w.heap[g]?=some (.cells c t fr)) (u):(w.setCell (g,i) u).heap[g]?=some (.cells (c.setIfInBounds i u) t fr):=by simp[World.setCell,qk,h]
theorem Lies.setFu (h:Lies w gd gs gn wt E st L k F) (f) (u: -1<=f) (t:f<=1000000):Lies (w.setCell (gd,3) (.int .i64 f)) gd gs gn wt E {st with fu:=f} L k F:=by
 obtain⟨o,p,l,s,r⟩:=h.ne_d;have a:∀i,i≠gd->(w.setCell (gd,3) (.int .i64 f)).heap[i]?=w.heap[i]? :=fun i d=>yE w _ _ i d;exact {h with
  hd:=by have:=jW (i:=3) h.hd (.int .i64 f);simpa using this
  hs:=(a _ (yA o)).trans h.hs
  hn:=(a _ (yA p)).trans h.hn
  own:=oW h.own fun b j=>a b (fun e=>l (by rw[j,e]))
  ent:=fun i n v d=>by obtain⟨t,D,g,m⟩:=h.ent i n v d;exact⟨t,D,g,m.keep (fun i c d _ _ q=>a i (tC q h.hd (by decide))) fun _ d=>d⟩
  fin:=fun i d=>by simpa[World.setCell]using h.fin i d
  f0:=u
  f1:=t}
end
def Did (d:Value) (st:Dk) (k:Nat) (F:Nat->Prop) (w w':World):Prop:=
 ∃F',uS w' d st k F'/\(∀i,F' i->F i\/w.heap.size<=i)/\yQ F w w'
theorem Did.trans {st:Dk} {F F1:Nat->Prop} {w1 w2:World} (g:yQ F w w1) (j:∀i,F1 i->F i\/w.heap.size<=i) (h:Did d st k F1 w1 w2):Did d st k F w w2:=by
 obtain⟨a,e,b,c⟩:=h;refine⟨a,e,fun i f=>?_,g.trans c j⟩;rcases b i f with h|h
 .exact j i h
 .exact zu (zt g.size h)
abbrev um:=@Did.trans
def sec (l:List Int) (n:Nat):List Int:=(l.drop (64*n)).take 64
def putS (l:List Int) (n:Nat) (D:List Int):List Int:=l.take (64*n)++(D++l.drop (64*n+64))
theorem mI (a:l.length=64*k) (b:n<k):(sec l n).length=64:=by unfold sec;rw[zj,yB];omega
theorem jE (a:l.length=64*k) (b:n<k) (c:D.length=64):(putS l n D).length=64*k:=by unfold putS;rw[zm,zm,zj,yB];omega
theorem VW (a:l.length=64*k) (b:n<k) (c:D.length=64):sec (putS l n D) n=D:=by
 unfold sec putS;have e:(l.take (64*n)).length=64*n:=by rw[zj];omega
 rw[ur (by omega),yP (by omega),yU,yT (by omega),zv (by omega)]
theorem Yg {m:Nat} (c:l.length=64*k) (d:n<k) (_hm:m<k) (f:D.length=64) (h:m≠n):sec (putS l n D) m=sec l m:=by
 have e:(l.take (64*n)).length=64*n:=by rw[zj];omega
 apply ww;intro j;unfold sec putS;rw[zI,zI];by_cases a:j<64
 .rw[ze a,ze a,yw,yw];by_cases b:m<n
  .rw[zX (by omega),zI,ze (by omega)]
  .rw[zy (by omega),zy (by omega),yw]
   congr 1
   omega
 .rw[zb a,zb a]
theorem Tt {a b:List Int} (d:a.length=64*k) (e:b.length=64*k) (h:∀n,n<k->sec a n=sec b n):a=b:=by
 apply ww;intro j;by_cases c:j<64*k
 .have:=zV (fun l=>l[j%64]?) (h (j / 64) (by omega));simp only[sec,zI,yw]at this;rw[ze (by omega),ze (by omega),show 64*(j / 64)+j%64=j by omega]at this;exact this
 .rw[yj (by omega),yj (by omega)]
section
variable {P : Program} {o : Oper} {a : Act} {w : World} {K : Act->World->Prop} {Q : Exit->Act->World->Prop}
theorem Pq (m:o.guard=none) (f) (xs) (ats) (n:o.op=.call {callee:=.value (.func f),args:=xs,argTypes:=ats})
 (p:∀args w,(callFunc f args).run P w=.ok (.enter f args) w) (args) (l:#[]++xs.map a.eval++#[]=args) (R:Value->World->Prop)
 (q:Calls P f args w fun e w'=>∃v,e=.returned v/\R v w') (h:∀v w',R v w'->K (a.put o.dst v) w'):if Region.wanted o (yielded ops a.tmps)=true then Oper.wp P o a w K Q else X:=by
 rw[ze (by simp[Region.wanted,m])];have e:execOp a.eval o=callFunc f (#[]++xs.map a.eval++#[]):=by obtain⟨d,j,k,pos,b,c⟩:=o;simp only at n;subst n;rfl
 unfold Oper.wp;rw[e,l,p];exact q.mono fun e w' ⟨v,g,i⟩=>by subst g;exact h v w' i
def over (l:List Int) (off:Nat) (D:List Int):List Int:=l.take off++(D++l.drop (off+D.length))
theorem Kd (d s) (dT sT) (x:o.op=.call {callee:=.builtin .copy,args:=#[d,s],argTypes:=#[dT,sT]}) (elem) (y:P.underlying dT=some (.slice elem)) (q:(P.info? elem).map (·.size)=some 1)
 (g off dLen dCap) (sv) (z:a.eval d=.slice (some ⟨g,off,none⟩) dLen dCap) (A:a.eval s=sv) (cur D) (t) (B:w.heap[g]?=some (.cells (u8s cur).toArray t (0,0)))
 (C:vQ w sv D) (E:0<D.length) (r:D.length<=dLen) (u:off+D.length<=cur.length)
 (h:K (a.put o.dst (goInt D.length)) (w.setRow g (u8s (over cur off D)).toArray)):o.wp P a w K Q:=by
 obtain⟨n,⟨p,_⟩|⟨k,i,c,rfl,m⟩⟩:=C
 .omega
 have b:=rP (P:=P) w dT sT o.type elem g off dLen dCap ⟨k,i,none⟩ D.length c (u8s cur).toArray t (u8s D) y q B (by rw[uo];exact (vW r).symm) (fun j v l=>by
  have f:(⟨k,i,none⟩:Addr).add j=⟨k,i+j,none⟩:=by unfold Addr.add;split<;>simp_all
  rw[f];exact m j v l) (by simp[uo];omega) (mG D)
 have e:((u8s cur).toArray.toList.take off++u8s D++(u8s cur).toArray.toList.drop (off+(u8s D).length)).toArray=(u8s (over cur off D)).toArray:=by unfold over;rw[pC,pC,oV,mL,uo,zP]
 rw[e,uo]at b;unfold Oper.wp;simp[execOp,x,resolve,invoke,builtin,z,A,b,Result.andThen];exact h
theorem GB (c:o.guard=none) (d s) (dT sT) (i:o.op=.call {callee:=.builtin .copy,args:=#[d,s],argTypes:=#[dT,sT]}) (elem) (j:P.underlying dT=some (.slice elem)) (e:(P.info? elem).map (·.size)=some 1)
 (g off dLen dCap) (sv) (k:a.eval d=.slice (some ⟨g,off,none⟩) dLen dCap) (l:a.eval s=sv) (cur D) (t) (m:w.heap[g]?=some (.cells (u8s cur).toArray t (0,0)))
 (n:vQ w sv D) (p:0<D.length) (f:D.length<=dLen) (b:off+D.length<=cur.length)
 (h:K (a.put o.dst (goInt D.length)) (w.setRow g (u8s (over cur off D)).toArray)):if Region.wanted o (yielded ops a.tmps)=true then Oper.wp P o a w K Q else X:=by
 rw[ze (by simp[Region.wanted,c])];exact Kd d s dT sT i elem j e g off dLen dCap sv k l cur D t m n p f b h
def bI (s:ByteArray):List Int:=s.data.toList.map fun b=>b.toNat
theorem ZF (s):(bI s).length=s.size:=by simp[bI]
theorem LS (w) (dT sT ty elem) (m:P.underlying dT=some (.slice elem)) (k:(P.info? elem).map (·.size)=some 1)
 (g dLen dCap) (sv) (cur) (t) (n:w.heap[g]?=some (.cells (u8s cur).toArray t (0,0))) (l:cur.length=dLen):
 (Builtin.copy_ #[dT,sT] ty #[.slice (some ⟨g,0,none⟩) dLen dCap,.string sv]).run P w=.ok (goInt (Nat.min sv.size dLen)) (w.setRow g (u8s (over cur 0 ((bI sv).take dLen))).toArray):=by
 obtain⟨D,f⟩:∃D,D=(bI sv).take dLen:=⟨_,rfl⟩;have h:D.length<=dLen:=by rw[f,zj];omega
 rw[<-f];have a:=vG P g 0 t (u8s D) 0 (u8s cur).toArray w n (by simp[uo];omega) (mG _);have e:((u8s cur).toArray.toList.take (0+0)++u8s D++(u8s cur).toArray.toList.drop (0+0+(u8s D).length)).toArray=(u8s (over cur 0 D)).toArray:=by unfold over;rw[pC,pC,oV,mL,uo,zP]
 rw[e]at a;have d:((sv.data.toList.map fun b=>Value.int IntKind.u8 b.toNat).take (Nat.min sv.size dLen))=u8s D:=by
  rw[f,oV,show u8s (bI sv)=sv.data.toList.map fun b:UInt8=>Value.int IntKind.u8 (b.toNat:Int) by simp[u8s,bI]];rw[List.take_eq_take_iff];have:(sv.data.toList.map fun b=>Value.int IntKind.u8 b.toNat).length=sv.size:=by rw[yp];rfl
  rw[this];show min (min sv.size dLen) sv.size=min dLen sv.size;omega
 cases c:P.info? elem with
 | none=>simp[c]at k
 | some i=>
  have j:i.size=1:=by simpa[c]using k
  simp[Builtin.copy_,vE m,Builtin.lenOf,Builtin.firstCells,sizeOf,typeInfo,c];rw[d,a];simp[Result.andThen]
theorem U9 (w) (dT sT ty elem) (p:P.underlying dT=some (.slice elem)) (m:(P.info? elem).map (·.size)=some 1)
 (g off dLen dCap) (sv) (cur D) (t) (q:w.heap[g]?=some (.cells (u8s cur).toArray t (0,0)))
 (r:vQ w sv D) (s:0<D.length) (n:D.length<=dLen) (o:off+D.length<=cur.length):
 (Builtin.copy_ #[dT,sT] ty #[.slice (some ⟨g,off,none⟩) dLen dCap,sv]).run P w=.ok (goInt D.length) (w.setRow g (u8s (over cur off D)).toArray):=by
 obtain⟨k,⟨l,_⟩|⟨f,d,c,rfl,i⟩⟩:=r
 .omega
 have a:=rP (P:=P) w dT sT ty elem g off dLen dCap ⟨f,d,none⟩ D.length c (u8s cur).toArray t (u8s D) p m q (by rw[uo];exact (vW n).symm) (fun j v h=>by
  have b:(⟨f,d,none⟩:Addr).add j=⟨f,d+j,none⟩:=by unfold Addr.add;split<;>simp_all
  rw[b];exact i j v h) (by simp[uo];omega) (mG D)
 have e:((u8s cur).toArray.toList.take off++u8s D++(u8s cur).toArray.toList.drop (off+(u8s D).length)).toArray=(u8s (over cur off D)).toArray:=by unfold over;rw[pC,pC,oV,mL,uo,zP]
 rw[e,uo]at a;exact a
end
