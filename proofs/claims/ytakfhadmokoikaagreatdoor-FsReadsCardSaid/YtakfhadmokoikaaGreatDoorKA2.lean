import Derived.Test.YtakfhadmokoikaaGreatDoorKA0
import Derived.WalkKit
import Derived.Deep.WholeRow
import Derived.Orders
set_option maxHeartbeats 0
set_option linter.all false
set_option maxRecDepth 100000
namespace Go.Proofs.YtakfhadmokoikaaGreatDoor
open Go.RowKit
variable {Q:Exit->Act->World->Prop} {a:Act} {d i len m n:Nat} {e t:TypeId} {k:IntKind} {o:Obj} {ops:Array Oper} {rest:List Oper} {s:Nat->Bool} {w:World} {xs ys:Array Value}
abbrev lV:=@run_loadVar_row
abbrev oo:=@heap_setCell_other
abbrev pa:=@mem_ready
abbrev pm:=@run_firstCells_some
abbrev qF:=@size_zeroCells
abbrev rE:=@run_copy_row
abbrev rd:=@results_cell_row
abbrev sD:=@grownCap_ge
abbrev sM:=@run_convert_bytes_string
abbrev si:=@run_loadCells_list
abbrev tZ:=@Oper.wp_mono
abbrev uE:=@Sem.run_pure
abbrev uJ:=@World.cell?_setCell_other
abbrev uQ:=@World.ownsRow_made
abbrev uW:=@zero_of_info
abbrev uX:=@wpList_plain
abbrev ui:=@heap_alloc_old
abbrev vE:=@run_storeCells_at
abbrev vG:=@heap_alloc2_old
abbrev vg:=@heap_alloc2_new
abbrev vi:=@World.cell?_of_block
abbrev vj:=@Below.heap_alloc
abbrev wk:=@World.cell?_alloc_lt
abbrev wy:=@run_underlying
abbrev xC:=@Below.grown
abbrev xI:=@Sem.run_bind
abbrev xR:=@cell_of_row
abbrev xW:=@Below.refl
abbrev xp:=@info_parts
abbrev yC:=@Below.heap_setCell
abbrev yD:=@wpList_store_row
abbrev yH:=@wpList_append_own
abbrev yQ:=@wpList_load_row
abbrev yS:=@bodyPost_ret
abbrev yW:=@World.ownsRow_nil
abbrev yX:=@Result.andThen_ok
abbrev yZ:=@setRow_other
abbrev yi:=@setRow_heap
abbrev zG:=@block_lt_of_cell
abbrev zQ:=@IntWalk.i64_in
abbrev zT:=@heap_alloc_new
abbrev zX:=@heap_setCell_same
def b2 (b:Bool) (k:Nat):Nat:=if b then k else 0
def tB (f:Nat->Bool):Nat:=b2 (f 0) 1+b2 (f 1) 2+b2 (f 2) 4+b2 (f 3) 8+b2 (f 4) 16+b2 (f 5) 32+b2 (f 6) 64+b2 (f 7) 128
def tD (s:Nat->Bool) (i:Nat):Nat:=tB fun j=>s (8*i+j)
def enc (s:Nat->Bool):Array Value:=Array.ofFn (n:=32) fun i=>Value.int .u8 (tD s i.val)
theorem tF (s:Nat->Bool):(enc s).size=32:=by simp[enc]
theorem pQ (s:Nat->Bool) (i:Nat) (h:i<32):(enc s)[i]?=some (.int .u8 (tD s i)):=by simp[enc,h]
theorem lO (s:Nat->Bool):(enc s).all (·.oneCell')=true:=by rw[xZ];intro v a;simp only[enc,Array.mem_ofFn]at a;obtain⟨i,rfl⟩:=a;rfl
theorem pA (b:Bool) (k:Nat):b2 b k<=k:=by unfold b2;split<;>omega
theorem jq (f:Nat->Bool):tB f<256:=by unfold tB;have h:=pA (f 0) 1;have d:=pA (f 1) 2;have b:=pA (f 2) 4;have i:=pA (f 3) 8;have c:=pA (f 4) 16;have g:=pA (f 5) 32;have a:=pA (f 6) 64;have e:=pA (f 7) 128;omega
theorem Wn (s:Nat->Bool) (i:Nat):tD s i<256:=jq _
theorem W5 {f g:Nat->Bool} (h:∀j,j<8->f j=g j):tB f=tB g:=by unfold tB;rw[h 0 (by omega),h 1 (by omega),h 2 (by omega),h 3 (by omega),h 4 (by omega),h 5 (by omega),h 6 (by omega),h 7 (by omega)]
def by8 (b0 b1 b2' b3 b4 b5 b6 b7:Bool):Nat:=b2 b0 1+b2 b1 2+b2 b2' 4+b2 b3 8+b2 b4 16+b2 b5 32+b2 b6 64+b2 b7 128
theorem Ot (f:Nat->Bool):tB f=by8 (f 0) (f 1) (f 2) (f 3) (f 4) (f 5) (f 6) (f 7):=rfl
theorem MU: ∀(k:Fin 8) (a b c d e f g h:Bool),(by8 a b c d e f g h).testBit k.val=[a,b,c,d,e,f,g,h].getD k.val false:=by decide +kernel
theorem Qj: ∀x:Fin 256,by8 (x.val.testBit 0) (x.val.testBit 1) (x.val.testBit 2) (x.val.testBit 3) (x.val.testBit 4) (x.val.testBit 5) (x.val.testBit 6) (x.val.testBit 7)=x.val:=by decide +kernel
theorem fS (f:Nat->Bool) (k:Nat) (a:k<8):(tB f).testBit k=f k:=by
 have:=MU ⟨k,a⟩ (f 0) (f 1) (f 2) (f 3) (f 4) (f 5) (f 6) (f 7);rw[Ot,this]
 match k,a with
 | 0,_=>rfl
 | 1,_=>rfl
 | 2,_=>rfl
 | 3,_=>rfl
 | 4,_=>rfl
 | 5,_=>rfl
 | 6,_=>rfl
 | 7,_=>rfl
 | k+8,h=>omega
theorem JU (x k:Nat) (a:x<256) (b:8<=k):x.testBit k=false:=
 Nat.testBit_lt_two_pow (zm a (by have:2 ^ 8<=2 ^ k:=Nat.pow_le_pow_right (by omega) b;simpa using this))
theorem Xk (x:Nat) (f:Nat->Bool) (b:x<256) (h:∀k,k<8->x.testBit k=f k):x=tB f:=by
 apply Nat.eq_of_testBit_eq;intro k;by_cases a:k<8
 .rw[h k a,fS f k a]
 .rw[JU x k b (by omega),JU _ k (jq f) (by omega)]
theorem Qn (a b:Nat) (c:a<256) (d:b<256):bits .or .u8 a b=((a ||| b:Nat):Int):=
 (bits_nat .u8 8 (by decide) wraps_u8 a b c d).2
theorem OD (a b:Nat) (c:a<256) (d:b<256):bits .and .u8 a b=((a &&& b:Nat):Int):=
 (bits_nat .u8 8 (by decide) wraps_u8 a b c d).1
theorem Iw (f g:Nat->Bool):bits .or .u8 (tB f) (tB g)=(tB (fun j=>f j||g j):Nat):=by
 rw[Qn _ _ (jq f) (jq g)]
 congr 1
 exact Xk _ _ (Nat.or_lt_two_pow (n:=8) (jq f) (jq g)) fun k a=>by rw[Nat.testBit_or,fS f k a,fS g k a]
theorem Gc (f g:Nat->Bool):bits .andNot .u8 (tB f) (tB g)=(tB (fun j=>f j&&!g j):Nat):=by
 have c:=jq f;have d:=jq g;have e:bits .andNot .u8 (tB f) (tB g)=((BitVec.ofNat 8 (tB f) &&& ~~~BitVec.ofNat 8 (tB g)).toNat:Int):=by
  unfold bits;simp only[qO];rw[wraps_u8 _ (Int.natCast_nonneg _)]
  .rfl
  .have:=(BitVec.ofNat IntKind.u8.bits (tB f) &&& ~~~BitVec.ofNat IntKind.u8.bits (tB g)).isLt;have b:IntKind.u8.bits=8:=rfl;simp only[b]at this ⊢;omega
 rw[e]
 congr 1
 refine Xk _ _ (BitVec.isLt _) fun k a=>?_;have:(BitVec.ofNat 8 (tB f) &&& ~~~BitVec.ofNat 8 (tB g)).toNat.testBit k=(BitVec.ofNat 8 (tB f) &&& ~~~BitVec.ofNat 8 (tB g)).getLsbD k:=rfl;rw[this,BitVec.getLsbD_and,BitVec.getLsbD_not,BitVec.getLsbD_ofNat,BitVec.getLsbD_ofNat,fS f k a,fS g k a];simp[a]
theorem ST: ∀k:Fin 8,2 ^ k.val%256=tB (fun j=>decide (j=k.val)):=by decide +kernel
theorem XQ (k:Nat) (a:k<8):((2:Int) ^ k%256)=(tB (fun j=>decide (j=k)):Nat):=by rw[<-ST ⟨k,a⟩];simp
theorem Os (f:Nat->Bool) (k:Nat) (d:k<8):bits .and .u8 (((tB f:Nat):Int) / 2 ^ k) 1=if f k then 1 else 0:=by
 have b:=jq f;have e:((tB f:Nat):Int) / 2 ^ k=((tB f >>> k:Nat):Int):=by rw[sx];simp
 have c:tB f >>> k<256:=by rw[sx];exact Nat.lt_of_le_of_lt (Nat.div_le_self _ _) b
 rw[e,show (1:Int)=((1:Nat):Int) from rfl,OD _ 1 c (by omega)];have:tB f >>> k &&& 1=if f k then 1 else 0:=by
  have a:=fS f k d;rw[Nat.testBit_eq_decide_div_mod_eq]at a;rw[Nat.and_one_is_mod,sx,<-a];by_cases h:tB f / 2 ^ k%2=1
  .simp[h]
  .have:tB f / 2 ^ k%2=0:=(by omega);simp[this]
 rw[this];split<;>rfl
theorem N6 (x:Nat) (h:x<256):tB (fun j=>x.testBit j)=x:=Qj ⟨x,h⟩
def ins (s:Nat->Bool) (n:Nat):Nat->Bool:=fun m=>s m||decide (m=n)
def del (s:Nat->Bool) (n:Nat):Nat->Bool:=fun m=>s m&&!decide (m=n)
def join (s t:Nat->Bool):Nat->Bool:=fun m=>s m||t m
theorem W7 {t:Nat->Bool} (h:∀j,j<8->s (8*i+j)=t (8*i+j)):tD s i=tD t i:=W5 h
theorem iP (s t:Nat->Bool) (i:Nat) (f:i<32) (g:∀m,m / 8≠i->s m=t m):(enc s).setIfInBounds i (.int .u8 (tD t i))=enc t:=by
 apply yV;intro k;rw[yO];by_cases a:k<32
 .rw[pQ t k a];by_cases e:i=k
  .subst e;simp[tF,f]
  .rw[zb e,pQ s k a,W7 fun j d=>g _ (by omega)]
 .have c:(enc s)[k]?=none:=by simp[tF];omega
  have b:(enc t)[k]?=none:=by simp[tF];omega
  rw[c,b];split<;>simp[tF]<;>omega
theorem Tu (s:Nat->Bool) (n:Nat) (c:n<256):(enc s).setIfInBounds (n / 8) (.int .u8 (bits .or .u8 (tD s (n / 8)) (2 ^ (n%8)%256)))=enc (ins s n):=by
 rw[XQ _ (by omega)];unfold tD;rw[Iw];have e:tB (fun j=>s (8*(n / 8)+j)||decide (j=n%8))=tD (ins s n) (n / 8):=W5 fun j b=>by
  unfold ins
  congr 2
  rw[eq_iff_iff];omega
 rw[e];exact iP s (ins s n) (n / 8) (by omega) fun m a=>by unfold ins;rw[zK (fun h:m=n=>a (by rw[h])),Bool.or_false]
theorem Tw (s:Nat->Bool) (n:Nat) (c:n<256):(enc s).setIfInBounds (n / 8) (.int .u8 (bits .andNot .u8 (tD s (n / 8)) (2 ^ (n%8)%256)))=enc (del s n):=by
 rw[XQ _ (by omega)];unfold tD;rw[Gc];have e:tB (fun j=>s (8*(n / 8)+j)&&!decide (j=n%8))=tD (del s n) (n / 8):=W5 fun j b=>by
  unfold del
  congr 3
  rw[eq_iff_iff];omega
 rw[e];exact iP s (del s n) (n / 8) (by omega) fun m a=>by unfold del;rw[zK (fun h:m=n=>a (by rw[h])),Bool.not_false,Bool.and_true]
theorem Kn {t:Nat->Bool} (h:∀m,m<256->s m=t m):enc s=enc t:=by
 apply yV;intro k;by_cases a:k<32
 .rw[pQ s k a,pQ t k a,W7 fun j d=>h _ (by omega)]
 .have c:(enc s)[k]?=none:=by simp[tF];omega
  have b:(enc t)[k]?=none:=by simp[tF];omega
  rw[c,b]
def my (s r:Nat->Bool) (k:Nat):Nat->Bool:=fun m=>if m<8*k then r m else s m
theorem Tt (s r:Nat->Bool) (k:Nat) (c:k<32):(enc (my s r k)).setIfInBounds k (.int .u8 (tD r k))=enc (my s r (k+1)):=by
 have e:tD r k=tD (my s r (k+1)) k:=W7 fun j b=>by unfold my;rw[ze (by omega)]
 rw[e];refine iP _ _ k c fun m a=>?_;unfold my;by_cases h:m<8*k
 .rw[ze h,ze (by omega)]
 .rw[zb h,zb (by omega)]
theorem N8 (s r:Nat->Bool) (k:Nat):tD (my s r k) k=tD s k:=W7 fun j a=>by unfold my;rw[zb (by omega)]
theorem RW (s r:Nat->Bool):enc (my s r 0)=enc s:=Kn fun m _=>by unfold my;rw[zb (by omega)]
theorem Oj (s r:Nat->Bool):enc (my s r 32)=enc r:=Kn fun m a=>by unfold my;rw[ze (by omega)]
theorem MS (s t:Nat->Bool) (k:Nat):bits .or .u8 (tD s k) (tD t k)=(tD (join s t) k:Nat):=Iw _ _
theorem PU: ∀k:Fin 8,(255:Nat).testBit k.val=true:=by decide
theorem MT (h:tD s i=255) (j:Nat) (a:j<8):s (8*i+j)=true:=by have:=fS (fun j=>s (8*i+j)) j a;rw[show tB (fun j=>s (8*i+j))=255 from h]at this;rw[<-this];exact PU ⟨j,a⟩
variable {P : Program}
theorem Ir {t:TypeId} {d:TypeDesc} (h:P.underlying t=some d) (w:World):(isAgg t).run P w=.ok (match d with|.struct _|.array _ _=>true|_=>false) w:=by unfold isAgg;rw[xI,wy h w];cases d<;>simp
theorem KZ (h:(P.info? t).map (·.size)=some n) (w:World):(sizeOf t).run P w=.ok n w:=by
 cases a:P.info? t with
 | none=>simp[a]at h
 | some i=>simp[a]at h;simp[sizeOf,typeInfo,a,h]
theorem KU (h:P.underlying t=some (.int k)) (cs:Array Value) (a:Nat) (v:Value) (b:cs[a]?=some v) (w:World):(part t cs a).run P w=.ok v w:=by unfold part;rw[xI,Ir h w];simp[b]
theorem M7 {t:TypeId} {d:TypeDesc} (h:P.underlying t=some d) (hd:(match d with|.struct _|.array _ _=>true|_=>false)=true) {n:Nat} (hn:(P.info? t).map (·.size)=some n) (cs:Array Value) (off:Nat) (w:World):
 (part t cs off).run P w=.ok (.agg (cs.extract off (off+n))) w:=by
 unfold part;rw[xI,Ir h w,hd];simp[KZ hn w]
theorem W9 (t e:TypeId) (n:Nat) (a:IntKind) (cs:Array Value) (k:IntKind) (i:Int) (h:P.underlying t=some (.array n e)) (b:P.underlying e=some (.int a)) (c:(P.info? e).map (·.size)=some 1)
 (d:0<=i) (f:i<n) (v:Value) (g:cs[i.toNat]?=some v) (w:World):(Instr.index t (.agg cs) (.int k i)).run P w=.ok v w:=by
 simp only[Instr.index,asIntOf,xI,uE,yX,wy h];rw[ze ⟨d,f⟩];simp only[xI,KZ c,yX,vD];exact KU b cs _ v g w
theorem om {o:Oper} (c:o.guard=none) (d:TypeId) (e:o.op=.alloc d)
 (Z:Array Value) (f:∀w,(zeroValue d).run P w=.ok (.agg Z) w)
 (h:wpList P ops Q rest (a.put o.dst (w.heap.size,())) (w.alloc (.cells Z d))):wpList P ops Q (o::rest) a w:=
 uX c fun _ b=>by unfold Oper.wp execOp;simp only[e,Instr.alloc,xI,f,yX,newVar,Value.cells];exact b _ _ h
theorem KI {o:Oper} (c:Region.wanted o (yielded ops a.tmps)=true)
 (h:∀K:Act->World->Prop,(∀a w,wpList P ops Q rest a w->K a w)->o.wp P a w K Q):wpList P ops Q (o::rest) a w:=
 wpList_step fun K b=>by rw[ze c];exact h K b
theorem Ug {ops:Array Oper} {rest:List Oper} {o:Oper} {a:Act} {w:World} {Q:Exit->Act->World->Prop} (hw:Region.wanted o (yielded ops a.tmps)=true) (ty:TypeId) (x:Operand) (ho:o.op=.load ty x)
 (g:Nat) (hx:a.eval x=.pointer (some ⟨g,0,none⟩)) (t:TypeId) (cs:Array Value) (fr:Nat×Nat) (d:TypeDesc) (hg:w.heap[g]?=some (.cells cs t fr))
 (hu:P.underlying ty=some d) (hd:(match d with|.struct _|.array _ _=>true|_=>false)=true) (hi:(P.info? ty).map (·.size)=some cs.size)
 (h:wpList P ops Q rest (a.put o.dst (.agg cs)) w):wpList P ops Q (o::rest) a w:=
 KI hw fun _ b=>wp_load_row ty x ho g hx t cs fr d hg hu hd hi (b _ _ h)
theorem we {w':World} (h:Below w w w') (a:w.heap[i]?=some o):w'.heap[i]?=some o:=
 (h.block _ (wQ.1 a).1).trans a
theorem tf (a:w.heap[i]?=some o) (x:Obj):(w.alloc x).heap[i]?=some o:=
 (vj w x i (wQ.1 a).1).trans a
theorem jF (a:w.heap[i]?=some o) (g:Nat) (cs:Array Value) (b:i≠g):(w.setRow g cs).heap[i]?=some o:=
 (yZ w g i cs b).trans a
theorem xL (a:w.heap[i]?=some o):i<w.heap.size:=(wQ.1 a).1
theorem Below.step {w1 w2:World} (h:Below w w w1) (k:Below w1 w1 w2):Below w w w2:=h.trans (k.mono h.size)
def mF (xs ys:Array Value) (off n:Nat):Prop:=∀j,j<n->∃k a b,xs[off+j]?=some (.int k a)/\ys[off+j]?=some (.int k b)
def rc (xs ys:Array Value) (off:Nat):Nat->Bool
 | 0=>true
 | n+1=>rc xs ys off n&&(match xs[off+n]?,ys[off+n]? with|some (.int _ a),some (.int _ b)=>a==b|_,_=>false)
theorem K4 (b ys:Array Value) (a m:Nat):∀n,rc b ys a (m+n)=(rc b ys a m&&rc b ys (a+m) n)
 | 0=>by simp[rc]
 | n+1=>by rw[<-yA];simp only[rc];rw[K4 b ys a m n,Bool.and_assoc,yA]
theorem IY (d ys:Array Value) (c m o:Nat):∀n,o+n<=m->rc (d.extract c (c+m)) (ys.extract c (c+m)) o n=rc d ys (c+o) n
 | 0,_=>rfl
 | n+1,h=>by
  simp only[rc];rw[IY d ys c m o n (by omega)];have e:∀a:Array Value,(a.extract c (c+m))[o+n]?=a[c+o+n]? :=fun a=>by
   rw[Array.getElem?_extract];by_cases b:o+n<min (c+m) a.size-c
   .rw[ze b,yA]
   .rw[zb b,eq_comm,ya (by omega)]
  rw[e d,e ys]
theorem mF.extract {off o:Nat} (h:mF xs ys (off+o) n) (p:o+n<=m):mF (xs.extract off (off+m)) (ys.extract off (off+m)) o n:=fun j f=>by
 obtain⟨k,a,b,i,g⟩:=h j f;have e:∀(c:Array Value) v,c[off+o+j]?=some v->(c.extract off (off+m))[o+j]?=some v:=fun c v d=>by have l:=(wQ.1 d).1;rw[Array.getElem?_extract,ze (by omega),<-yA];exact d
 exact⟨k,a,b,e xs _ i,e ys _ g⟩
def jm (P:Program) (d:Nat) (t:TypeId) (n:Nat):Prop:=
 ∀(w:World) (xs ys:Array Value) (off:Nat),mF xs ys off n ->
  (do let a <-part t xs off;let b <-part t ys off;Op.equalIn d t a b).run P w=.ok (rc xs ys off n) w
theorem KP (h:P.underlying t=some (.int k)):jm P (d+1) t 1:=fun w i g c j=>by obtain⟨l,a,b,f,e⟩:=j 0 (by omega);simp only[vA]at f e;simp only[xI,KU h i c _ f w,KU h g c _ e w,yX];rw[run_equalIn_int w d t l k a b h];simp[rc,f,e]
theorem Jg {d:Nat} {e:TypeId} {n:Nat} (t:jm P d e n) (q ys:Array Value):∀(l s:Nat) (w:World),mF q ys (s*n) (l*n) ->
 (forIn (List.range' s l) ((none,()):Option Bool×PUnit) fun i _=>(do
  let a <-part e q (i*n)
  let b <-part e ys (i*n)
  let r <-Op.equalIn d e a b
  if (!r)=true then pure (ForInStep.done (some false,())) else pure (ForInStep.yield (none,())):Sem (ForInStep (Option Bool×PUnit)))).run P w
  = .ok (if rc q ys (s*n) (l*n) then (none,()) else (some false,())) w
 | 0,s,w,_=>by simp[rc]
 | l+1,s,w,h=>by
  have c:(l+1)*n=n+l*n:=by rw[qK,Nat.one_mul,Nat.add_comm]
  rw[List.range'_succ,List.forIn_cons];have p:=t w q ys (s*n) (fun j m=>h j (by rw[c];omega));have g:(do let a <-part e q (s*n);let b <-part e ys (s*n);let r <-Op.equalIn d e a b;if (!r)=true then pure (ForInStep.done (some false,())) else pure (ForInStep.yield (none,())):Sem (ForInStep (Option Bool×PUnit))).run P w
   = ((do let a <-part e q (s*n);let b <-part e ys (s*n);Op.equalIn d e a b:Sem Bool).run P w).andThen fun r o=>((if (!r)=true then pure (ForInStep.done (some false,())) else pure (ForInStep.yield (none,())):Sem (ForInStep (Option Bool×PUnit)))).run P o:=by
   simp only[xI];cases (part e q (s*n)).run P w<;>simp[Result.andThen];rename_i a k;cases (part e ys (s*n)).run P k<;>simp
  rw[xI,g,p];simp only[yX];rw[c,K4];by_cases f:rc q ys (s*n) n=true
  .simp only[f,Bool.not_true,oI,ua,uE,yX,uq];have:=Jg t q ys l (s+1) w (fun j m=>by have:=h (n+j) (by rw[c];omega);rw[qK,Nat.one_mul,yA];exact this);rw[qK,Nat.one_mul]at this;exact this
  .simp only[tw]at f;simp only[f,Bool.not_false,vl,uE,yX,Bool.false_and,oI,ua]
theorem IP (h:P.underlying t=some (.array len e)) (c:(P.info? e).map (·.size)=some n) (f:jm P d e n) (b ys:Array Value) (w:World)
 (g:mF b ys 0 (len*n)):(Op.equalIn (d+1) t (.agg b) (.agg ys)).run P w=.ok (rc b ys 0 (len*n)) w:=by
 simp only[Op.equalIn,xI,wy h,yX,KZ c];rw[Std.Legacy.Range.forIn_eq_forIn_range'];have:=Jg f b ys len 0 w (by simpa using g);simp only[Std.Legacy.Range.size,Nat.sub_zero,sj,Nat.div_one];simp only[um]at this;rw[this];by_cases a:rc b ys 0 (len*n)=true
 .simp[a]
 .simp only[tw]at a;simp[a]
theorem II (h:P.underlying t=some (.array len e)) (g:(P.info? e).map (·.size)=some n) (i:(P.info? t).map (·.size)=some (len*n)) (j:jm P d e n):jm P (d+1) t (len*n):=fun w f c a b=>by simp only[xI,M7 h rfl i,yX];rw[IP h g j _ _ w (mF.extract (o:=0) (by simpa using b) (by omega)),IY _ _ _ _ _ _ (by omega)];rfl
theorem Hu {f g:Field} (h : P.underlying t = some (.struct #[f, g])) (I : P.stoodInHeld t = false) (J : f.name ≠ "_") (K : g.name ≠ "_")
 (D:f.offset=0) (E:g.offset=n) (F:jm P d f.type n) (G:jm P d g.type m) (C ys:Array Value) (w:World) (H:mF C ys 0 (n+m)):
 (Op.equalIn (d+1) t (.agg C) (.agg ys)).run P w=.ok (rc C ys 0 (n+m)) w:=by
 have i:P.fieldsOf t=#[f,g]:=by simp[Program.fieldsOf,h]
 rw[run_equalIn_struct w d t C ys (by rw[i];exact h) I,i];have e:=F w C ys 0 (fun j y=>H j (by omega));have c:=G w C ys n (fun j y=>by have:=H (n+j) (by omega);simpa using this);rw[K4];simp only[yL];simp only[xI]at e c;simp only[Op.eqFields,J,K,D,E,ne_eq,not_false_eq_true,vl,xI];cases u:(part f.type C 0).run P w with
 | halt x q=>rw[u]at e;simp[Result.andThen]at e
 | ok a q=>
  rw[u]at e;simp only[yX]at e ⊢;cases s:(part f.type ys 0).run P q with
  | halt x z=>rw[s]at e;simp[Result.andThen]at e
  | ok b z=>
   rw[s]at e;simp only[yX]at e ⊢;rw[e];simp only[yX];by_cases o:rc C ys 0 n=true
   .simp only[o,Bool.not_true,oI,ua,uq];cases l:(part g.type C n).run P w with
    | halt x r=>rw[l]at c;simp[Result.andThen]at c
    | ok B r=>
     rw[l]at c;simp only[yX,xI]at c ⊢;cases p:(part g.type ys n).run P r with
     | halt x v=>rw[p]at c;simp[Result.andThen]at c
     | ok A v=>
      rw[p]at c;simp only[yX]at c;rw[l];simp only[yX];rw[p];simp only[yX];rw[c];simp only[yX];by_cases k:rc C ys n m=true
      .simp[k]
      .simp only[tw]at k;simp[k]
   .simp only[tw]at o;simp[o]
theorem IC {xs ys:Array Value}:∀{n:Nat},mF xs ys 0 n->(rc xs ys 0 n=true↔∀j,j<n->xs[j]?=ys[j]?)
 | 0,_=>by simp[rc]
 | n+1,h=>by
  have i:=IC (n:=n) (fun j g=>h j (by omega));obtain⟨k,a,b,d,c⟩:=h n (by omega);simp only[yL]at d c;simp only[rc,yM,yL,d,c,i,vv];constructor
  .rintro ⟨f,rfl⟩ j g;by_cases e:j=n
   .subst e;rw[d,c]
   .exact f j (by omega)
  .intro f;refine⟨fun j g=>f j (by omega),?_⟩;have:=f n (by omega);rw[d,c]at this;simpa using this
theorem M6 (c:xs.size=n) (d:ys.size=n) (b:mF xs ys 0 n):rc xs ys 0 n=true↔xs=ys:=by
 rw[IC b];constructor
 .intro h;apply yV;intro j;by_cases a:j<n
  .exact h j a
  .rw[ya (by omega),ya (by omega)]
 .rintro rfl j _;rfl
end Go.Proofs.YtakfhadmokoikaaGreatDoor
namespace Go.Proofs.YtakfhadmokoikaaGreatDoor
open Go.RowKit
variable {D:Nat->Bool} {base i j k n size:Nat} {e:TypeId} {p:Int} {r:List (Int×Int)} {v:Value} {w w':World} {x:Int×Int} {xs:List Value}
def xT (w:World) (v:Value) (k n:Nat) (xs:List Value):Prop:=
 xs.length=n*k/\((n=0/\∃a cap,v=.slice a 0 cap)\/∃g off cap,v=.slice (some ⟨g,off,none⟩) n cap/\∀(j:Nat) (x:Value),xs[j]?=some x->w.cell? ⟨g,off+j,none⟩=some x)
def ints (l:List Int):List Value:=l.map fun n=>Value.int .i64 n
def vQ (w:World) (v:Value) (l:List Int):Prop:=xT w v 1 l.length (ints l)
theorem xT.below (h:xT w v k n xs) (l:Below w w w'):xT w' v k n xs:=by obtain⟨i,f⟩:=h;refine⟨i,f.imp id ?_⟩;rintro ⟨g,a,b,e,c⟩;exact⟨g,a,b,e,fun j x d=>(l.cell (zG (c j x d))).trans (c j x d)⟩
theorem xT.of_owns (h:w.ownsRow base e k v n xs):xT w v k n xs:=by
 obtain⟨o,l⟩:=h;refine⟨o,l.imp (fun ⟨a,b⟩=>⟨b,none,0,a⟩) ?_⟩;rintro ⟨g,d,f,i,_,m,_,_,_,p⟩;refine⟨g,0,d,i,fun j x c=>?_⟩;rw[yL,zC m];rw[<-p,zI]at c;split at c
 .simpa using c
 .cases c
theorem mt (l:List Int) (j:Nat) (a:j<l.length):(ints l)[j]?=some (.int .i64 (l[j])):=by simp[ints,a]
def badP (p:Int):Bool:=decide (p<0)||decide (256<=p)
def tI (l:List Int):Int:=if 8<l.length then 2 else if l.any badP then 1 else 0
def lC (x:Int×Int) (p:Int):Bool:=if x.1=0 then p==0 else p==x.1+x.2
def oX (out:List (Int×Int)) (p:Int):List (Int×Int):=
 match out with
 | []=>[(p,1)]
 | x::r=>if lC x p then (x.1,x.2+1)::r else (p,1)::x::r
def ofR (l:List Int):List (Int×Int):=l.foldl oX []
def ofE (l:List Int):List (Int×Int):=(ofR l).reverse
def wT (l:List (Int×Int)):List Value:=l.flatMap fun x=>[.int .i64 x.1,.int .i64 x.2]
theorem rC (l:List (Int×Int)):(wT l).length=l.length*2:=by
 induction l with
 | nil=>rfl
 | cons x l a=>simp only[wT,xA,zl,yz,xP]at *;omega
theorem oW (a b:List (Int×Int)):wT (a++b)=wT a++wT b:=by simp[wT]
theorem O6 (r:List (Int×Int)) (x:Int×Int):(wT (r++[x]))[r.length*2]?=some (.int .i64 x.1)/\(wT (r++[x]))[r.length*2+1]?=some (.int .i64 x.2):=by
 rw[oW];have h:=rC r;constructor
 .rw[zx (by omega),show r.length*2-(wT r).length=0 by omega];rfl
 .rw[zx (by omega),show r.length*2+1-(wT r).length=1 by omega];rfl
theorem I9 (r:List (Int×Int)) (a b c:Int):(wT (r++[(a,b)])).set (r.length*2+1) (.int .i64 c)=wT (r++[(a,c)]):=by rw[oW,oW];have h:=rC r;rw[vU _ _ (by omega),show r.length*2+1-(wT r).length=1 by omega];rfl
theorem QL (p:Int):oX [] p=[(p,1)]:=rfl
theorem QK (h:lC x p=true):oX (x::r) p=(x.1,x.2+1)::r:=by simp[oX,h]
theorem Sq (h:lC x p=false):oX (x::r) p=(p,1)::x::r:=by simp[oX,h]
theorem Zn (w:World) (c:Array Value) (t:TypeId) (j:Nat) (u:Value) (h:c.toList[j]?=some u):(w.alloc (.cells c t)).cell? ((⟨w.heap.size,0,none⟩:Addr).add j)=some u:=by
 have a:(⟨w.heap.size,0,none⟩:Addr).add j=⟨w.heap.size,j,none⟩:=by unfold Addr.add;split<;>simp_all
 rw[a,xR _ _ j c t (0,0) (zT w _)];simpa using h
theorem th (h:w.ownsRow base e size v n xs) (k:Below w w w'):w'.ownsRow base e size v n xs:=by
 obtain⟨i,b⟩:=h;refine⟨i,?_⟩;rcases b with b|⟨g,c,a,d,j,f,r⟩
 .exact zt b
 .exact zu ⟨g,c,a,d,j,we k f,r⟩
theorem tR (h:w.ownsRow base e size v n xs):
 ∃q cap,v=.slice q n cap/\(0<n->∃g,q=some ⟨g,0,none⟩/\base<=g/\∀(j:Nat) (x:Value),xs[j]?=some x->w.cell? ⟨g,j,none⟩=some x):=by
 obtain⟨k,⟨rfl,c⟩|⟨g,cap,b,rfl,i,d,_,_,_,f⟩⟩:=h
 .exact⟨none,0,by rw[c],fun h=>by omega⟩
 .refine⟨_,cap,rfl,fun _=>⟨g,rfl,i,fun j x a=>?_⟩⟩;rw[zC d];rw[<-f,zI]at a;split at a
  .simpa using a
  .cases a
theorem XM (l:List (Int×Int)) (k:Nat) (c:k<l.length):(wT l)[k*2]?=some (.int .i64 l[k].1)/\(wT l)[k*2+1]?=some (.int .i64 l[k].2):=by
 induction l generalizing k with
 | nil=>simp at c
 | cons x l b=>
  cases k with
  | zero=>simp[wT]
  | succ k=>
   have:=b k (by simpa using c);have a:(k+1)*2=k*2+1+1:=(by omega);rw[a];simp only[wT,xA,rk,xj,zk,List.getElem_cons_succ]at *
   exact this
def sg (ns:List Int):ByteArray:=ns.foldl (fun r n=>r.push (UInt8.ofNat n.toNat)) ByteArray.empty
theorem ZB {P:Program} (w:World) (d f e:TypeId) (g c cap n:Nat) (h:List Int) (i:h.length=n) (k:P.underlying d=some (.slice e)) (l:P.underlying e=some (.int .u8)) (m:P.underlying f=some .string)
 (o:∀(j:Nat) (v:Value),(h.map (Value.int .u8))[j]?=some v->w.cell? (g,c+j)=some v):
 (convert d f (g,c,n,cap)).run P w=.ok (.string (sg h)) w:=by
 subst i;rw[sM w d f e _ _ _ k l m];refine run_bytesToString w ⟨g,c,none⟩ h.length cap h ?_;have:=si (P:=P) w ⟨g,c,none⟩ (h.map (Value.int .u8)) (fun j v b=>by
  have a:(⟨g,c,none⟩:Addr).add j=⟨g,c+j,none⟩:=by unfold Addr.add;split<;>simp_all
  rw[a];exact o j v b)
 rw[yw]at this;exact this
def okR (n:Nat) (out:List (Int×Int)):Prop:=∀x,x∈out->0<=x.1/\x.1<=255/\1<=x.2/\x.2<=n
theorem Mh {out:List (Int×Int)} (h:okR n out) (p:Int) (b:0<=p) (c:p<=255):okR (n+1) (oX out p):=by
 intro x a;cases out with
 | nil=>
  simp only[oX,xw]at a;subst a;simp only;omega
 | cons y r=>
  simp only[oX]at a;split at a
  .rcases yN.1 a with rfl|a
   .have:=h y (by simp);simp only;omega
   .have:=h x (by simp[a]);omega
  .rcases yN.1 a with rfl|a
   .simp only;omega
   .have:=h x a;omega
theorem QM (out:List (Int×Int)) (p:Int):(oX out p).length<=out.length+1:=by
 cases out with
 | nil=>simp[oX]
 | cons y r=>simp only[oX];split<;>simp
theorem Y4 (l:List Int) (p:Int):ofR (l++[p])=oX (ofR l) p:=by simp[ofR]
theorem m8 : ∀(n:Nat) (l:List Int),l.length=n->(∀p,p∈l->0<=p/\p<=255)->okR n (ofR l)/\(ofR l).length<=n
 | 0,l,a,_=>by have:l=[]:=yG.1 a;subst this;exact⟨fun x f=>by simp[ofR]at f,by simp[ofR]⟩
 | n+1,l,a,h=>by obtain⟨m,p,rfl⟩:∃m p,l=m++[p]:=⟨l.dropLast,l.getLast (by intro e;subst e;simp at a),(List.dropLast_concat_getLast _).symm⟩;have d:=m8 n m (by simpa using a) (fun q c=>h q (by simp[c]));have b:=h p (by simp);rw[Y4];exact⟨Mh d.1 p b.1 b.2,by have:=QM (ofR m) p;omega⟩
def u8s (l:List Int):List Value:=l.map fun n=>Value.int .u8 n
def vC (w:World) (v:Value) (l:List Int):Prop:=xT w v 1 l.length (u8s l)
theorem sJ (l:List Int) (j:Nat) (a:j<l.length):(u8s l)[j]?=some (.int .u8 (l[j])):=by simp[u8s,a]
theorem vO (l:List Int):(u8s l).length=l.length:=by simp[u8s]
theorem qh (a b:List Int):u8s (a++b)=u8s a++u8s b:=by simp[u8s]
theorem od (l:List Int) (n:Nat):u8s (l.take n)=(u8s l).take n:=by simp[u8s]
theorem mr (l:List Int) (n:Nat):u8s (l.drop n)=(u8s l).drop n:=by simp[u8s]
theorem oR (l:List Int):∀v∈u8s l,v.oneCell'=true:=by intro v a;simp only[u8s,zV]at a;obtain⟨b,_,rfl⟩:=a;rfl
def upd (D:Nat->Bool) (i:Nat):Nat->Bool:=fun j=>D j||decide (j=i)
theorem Ww (D:Nat->Bool) (i:Nat):upd D i i=true:=by simp[upd]
theorem qv (h:j≠i):upd D i j=D j:=by simp[upd,h]
theorem mZ (h:upd D i j=true) (a:j≠i):D j=true:=by rwa [qv a]at h
def left : List Bool->Nat
 | []=>0
 | b::l=>(if b then 0 else 1)+left l
theorem Y8 : ∀(l:List Bool) (i:Nat),l[i]?=some false->left (l.set i true)+1=left l
 | [],i,h=>by simp at h
 | b::l,0,h=>by simp at h;subst h;simp[left,Nat.add_comm]
 | b::l,i+1,h=>by have:=Y8 l i (by simpa using h);simp only[yh,left];omega
theorem XV : ∀(l:List Bool),left l=0->∀(i:Nat) (b:Bool),l[i]?=some b->b=true
 | [],_,i,b,h=>by simp at h
 | c::l,a,0,b,h=>by
  simp at h;subst h;cases c
  .simp[left]at a
  .rfl
 | c::l,a,i+1,b,h=>by refine XV l ?_ i b (by simpa using h);simp only[left]at a;omega
def gL (l:List Oper):Bool:=l.zipIdx.all fun (o,i)=>o.after.all fun e=> !Region.binds .any e||decide (e.on<i)
section
variable {P : Program} {l : List Oper} {Q : Exit->Act->World->Prop}
theorem Qr (p:gL l=true) (L:Array Bool) (q:L.size=l.length) (h:Region.ready .any l.toArray L=[]):∀n i,i<n->i<l.length->L.getD i false=true:=by
 intro n
 induction n with
 | zero=>intro i o;omega
 | succ n j=>
  intro i o a;cases f:L.getD i false with
  | true=>rfl
  | false=>
   exfalso;have d:i∈Region.ready .any l.toArray L:=by
    refine pa.2 ⟨?_,l[i],by simp[a],fun e g c=>?_⟩
    .have b:i<L.size:=(by omega);simp[b]at f ⊢;exact f
    .have m:=(yU.1 p) (l[i],i) (List.mk_mem_zipIdx_iff_getElem?.2 (by simp[a]));have k:=(xZ.1 m) e g;simp[c]at k;exact j e.on (by omega) (by omega)
   rw[h]at d;cases d
theorem Qz (G:gL l=true) (I:(Nat->Bool)->Act->World->Prop)
 (F:∀(D:Nat->Bool) (a:Act) (w:World),I D a w->∀(i:Nat) (o:Oper),l[i]?=some o->D i=false->(∀e∈o.after,Region.binds .any e=true->D e.on=true) ->
  if Region.wanted o (yielded l.toArray a.tmps) then o.wp P a w (fun a' w'=>I (upd D i) a' w') Q else I (upd D i) (a.put o.dst undef) w)
 (E:∀(D:Nat->Bool) (a:Act) (w:World),I D a w->(∀i,i<l.length->D i=true)->Q .normal a w):
 ∀(fuel:Nat) (L:Array Bool) (a:Act) (w:World),L.size=l.length->left L.toList<=fuel->I (fun j=>L.getD j false) a w->wpAny P .any l.toArray Q fuel L a w:=by
 intro fuel
 induction fuel with
 | zero=>
  intro L a w s z p;have x:∀i,i<l.length->L.getD i false=true:=fun i q=>by have b:i<L.size:=(by omega);have:=XV L.toList (by omega) i L[i] (by simp[b]);simp[b,this]
  refine⟨?_,E _ _ _ p x⟩;cases k:Region.ready .any l.toArray L with
  | nil=>rfl
  | cons i y=>
   exfalso;have B:i∈Region.ready .any l.toArray L:=(by rw[k];simp);obtain⟨g,o,m,_⟩:=pa.1 B;have n:i<l.length:=(by simpa using (wQ.1 m).1);have r:=x i n;have b:i<L.size:=(by omega);simp[b]at g r;rw[g]at r;cases r
 | succ fuel C=>
  intro L a w s z p;refine⟨fun k=>E _ _ _ p fun i q=>Qr G L s k (i+1) i (by omega) q,fun i q=>?_⟩;obtain⟨g,o,m,A⟩:=pa.1 q;have n:i<l.length:=by simpa using (wQ.1 m).1
  have b:i<L.size:=by omega
  have f:=F _ a w p i o (by simpa using m) (by simp[b]at g;simp[b,g]) A;have d:L.toList[i]?=some false:=by simp[b]at g;simp[b,g]
  have c:∀a' w',I (upd (fun j=>L.getD j false) i) a' w'->wpAny P .any l.toArray Q fuel (L.setIfInBounds i true) a' w':=fun a' w' u=>by
   refine C _ a' w' (by simpa using s) ?_ ?_
   .have:=Y8 L.toList i d;simp only[wP];omega
   .have e:(fun j=>(L.setIfInBounds i true).getD j false)=upd (fun j=>L.getD j false) i:=by
     funext j
     unfold upd;by_cases v:j=i
     .subst v;simp[b]
     .rw[getD_set_ne false (fun h=>v h.symm)];simp[v]
    rw[e];exact u
  unfold wpOp;rw[m];simp only;split
  .rename_i t;rw[ze t]at f;exact zt (tZ c f)
  .rename_i t;rw[zb t]at f;exact c _ _ f
theorem KW {id:Nat} {a:Act} (f:P.follows .mixedOrders=true) (g:gL l=true) (I:(Nat->Bool)->Act->World->Prop)
 (h:I (fun _=>false) a w.drew)
 (c:∀(D:Nat->Bool) (a:Act) (w:World),I D a w->∀(i:Nat) (o:Oper),l[i]?=some o->D i=false->(∀e∈o.after,Region.binds .any e=true->D e.on=true) ->
  if Region.wanted o (yielded l.toArray a.tmps) then o.wp P a w (fun a' w'=>I (upd D i) a' w') Q else I (upd D i) (a.put o.dst undef) w)
 (d:∀(D:Nat->Bool) (a:Act) (w:World),I D a w->(∀i,i<l.length->D i=true)->Q .normal a w):(Code.region id l.toArray true).wp P Q a w:=by
 refine wp_region_any f (Qz g I c d _ _ _ _ (by simp) ?_ ?_)
 .have:∀n,left (List.replicate n false)=n:=fun n=>by
   induction n with
   | zero=>rfl
   | succ n b=>rw[vI];simp only[left,b];simp;omega
  simp[this]
 .have e:(fun j=>(Array.replicate l.toArray.size false).getD j false)=fun _=>false:=by
   funext j
   simp only[xH,sP];split<;>rfl
  rw[e];exact h
end
section
variable {P : Program} {o : Oper} {a : Act} {w : World} {K : Act->World->Prop} {Q : Exit->Act->World->Prop}
theorem VP {ops:Array Oper} {X:Prop} (b:o.guard=none) (h:o.wp P a w K Q):if Region.wanted o (yielded ops a.tmps) then o.wp P a w K Q else X:=by rw[ze (by simp[Region.wanted,b])];exact h
theorem qC (x:Operand) (b:o.op=.move x) (h:K (a.put o.dst (a.eval x)) w):o.wp P a w K Q:=by unfold Oper.wp execOp;simp only[b];exact h
theorem KR (x:Operand) (b:o.op=.assign x) (h:K (a.put o.dst (a.eval x)) w):o.wp P a w K Q:=by unfold Oper.wp execOp;simp only[b];exact h
end
