/- Part of the proofs of FsLinks: the texts BitsPlain, Laws, ExtPlain, U8, Inv, SnapLaws. -/
import Derived.WalkKit
import Derived.Deep.WholeRow
import Derived.Orders
import Derived.Laws.CopyRow
import Derived.StillTailTactics
set_option maxHeartbeats 16000000
set_option maxRecDepth 100000
namespace Go.Proofs.YtpoglnpjadmbpaaGreatDoor
open Go.RowKit
def b2 (b:Bool) (k:Nat):Nat:=if b then k else 0
def qcv (f:Nat->Bool):Nat:=b2 (f 0) 1+b2 (f 1) 2+b2 (f 2) 4+b2 (f 3) 8+b2 (f 4) 16+b2 (f 5) 32+b2 (f 6) 64+b2 (f 7) 128
def qbq (s:Nat->Bool) (i:Nat):Nat:=qcv fun j=>s (8*i+j)
def enc (s:Nat->Bool):Array Value:=Array.ofFn (n:=32) fun i=>Value.int .u8 (qbq s i.val)
theorem qau (s:Nat->Bool):(enc s).size=32:=by simp[enc]
theorem qdh (s:Nat->Bool) (i:Nat) (h:i<32):(enc s)[i]? = some (.int .u8 (qbq s i)):=by
 simp[enc,h]
theorem qit (s:Nat->Bool):(enc s).all (·.oneCell')=true:=by
 rw[Array.all_eq_true_iff_forall_mem]
 intro v hv
 simp only[enc,Array.mem_ofFn]at hv
 obtain⟨i,rfl⟩:=hv
 rfl
theorem qxo (b:Bool) (k:Nat):b2 b k<=k:=by unfold b2;split <;> omega
theorem qgg (f:Nat->Bool):qcv f<256:=by
 unfold qcv
 have h0:=qxo (f 0) 1
 have h1:=qxo (f 1) 2
 have h2:=qxo (f 2) 4
 have h3:=qxo (f 3) 8
 have h4:=qxo (f 4) 16
 have h5:=qxo (f 5) 32
 have h6:=qxo (f 6) 64
 have h7:=qxo (f 7) 128
 omega
theorem qxq (s:Nat->Bool) (i:Nat):qbq s i<256:=qgg _
theorem qgq {f g:Nat->Bool} (h:∀ j,j<8->f j=g j):qcv f=qcv g:=by
 unfold qcv
 rw[h 0 (by omega),h 1 (by omega),h 2 (by omega),h 3 (by omega),h 4 (by omega),h 5 (by omega),h 6 (by omega),h 7 (by omega)]
def by8 (b0 b1 b2' b3 b4 b5 b6 b7:Bool):Nat:=b2 b0 1+b2 b1 2+b2 b2' 4+b2 b3 8+b2 b4 16+b2 b5 32+b2 b6 64+b2 b7 128
theorem ybkx (f:Nat->Bool):qcv f=by8 (f 0) (f 1) (f 2) (f 3) (f 4) (f 5) (f 6) (f 7):=rfl
theorem ybbb : ∀ (k:Fin 8) (a b c d e f g h:Bool),(by8 a b c d e f g h).testBit k.val=[a,b,c,d,e,f,g,h].getD k.val false:=by decide +kernel
theorem ybqy : ∀ x:Fin 256,by8 (x.val.testBit 0) (x.val.testBit 1) (x.val.testBit 2) (x.val.testBit 3) (x.val.testBit 4) (x.val.testBit 5) (x.val.testBit 6) (x.val.testBit 7)=x.val:=by decide +kernel
theorem qcw (f:Nat->Bool) (k:Nat) (hk:k<8):(qcv f).testBit k=f k:=by
 have:=ybbb ⟨k,hk⟩ (f 0) (f 1) (f 2) (f 3) (f 4) (f 5) (f 6) (f 7)
 rw[ybkx,this]
 match k,hk with
 | 0,_=>rfl
 | 1,_=>rfl
 | 2,_=>rfl
 | 3,_=>rfl
 | 4,_=>rfl
 | 5,_=>rfl
 | 6,_=>rfl
 | 7,_=>rfl
 | k+8,h=>omega
theorem qsy (x k:Nat) (hx:x<256) (hk:8<=k):x.testBit k=false:=
 Nat.testBit_lt_two_pow (Nat.lt_of_lt_of_le hx (by
  have:2 ^ 8<=2 ^ k:=Nat.pow_le_pow_right (by omega) hk
  simpa using this))
theorem yben (x:Nat) (f:Nat->Bool) (hx:x<256) (h:∀ k,k<8->x.testBit k=f k):x=qcv f:=by
 apply Nat.eq_of_testBit_eq
 intro k
 by_cases hk:k<8
 ·rw[h k hk,qcw f k hk]
 ·rw[qsy x k hx (by omega),qsy _ k (qgg f) (by omega)]
theorem ybqw (a b:Nat) (ha:a<256) (hb:b<256):bits .or .u8 a b=((a ||| b:Nat):Int):=
 (bits_nat .u8 8 (by decide) wraps_u8 a b ha hb).2
theorem ybkn (a b:Nat) (ha:a<256) (hb:b<256):bits .and .u8 a b=((a &&& b:Nat):Int):=
 (bits_nat .u8 8 (by decide) wraps_u8 a b ha hb).1
theorem qpb (f g:Nat->Bool):bits .or .u8 (qcv f) (qcv g)=(qcv (fun j=>f j || g j):Nat):=by
 rw[ybqw _ _ (qgg f) (qgg g)]
 congr 1
 exact yben _ _ (Nat.or_lt_two_pow (n:=8) (qgg f) (qgg g)) fun k hk=>by
  rw[Nat.testBit_or,qcw f k hk,qcw g k hk]
theorem qpo (f g:Nat->Bool):bits .andNot .u8 (qcv f) (qcv g)=(qcv (fun j=>f j && !g j):Nat):=by
 have hf:=qgg f
 have hg:=qgg g
 have e:bits .andNot .u8 (qcv f) (qcv g)=((BitVec.ofNat 8 (qcv f) &&& ~~~BitVec.ofNat 8 (qcv g)).toNat:Int):=by
  unfold bits
  simp only[BitVec.ofInt_natCast]
  rw[wraps_u8 _ (Int.natCast_nonneg _)]
  ·rfl
  ·have:=(BitVec.ofNat IntKind.u8.bits (qcv f) &&& ~~~BitVec.ofNat IntKind.u8.bits (qcv g)).isLt
   have h8:IntKind.u8.bits=8:=rfl
   simp only[h8]at this ⊢
   omega
 rw[e]
 congr 1
 refine yben _ _ (BitVec.isLt _) fun k hk=>?_
 have:(BitVec.ofNat 8 (qcv f) &&& ~~~BitVec.ofNat 8 (qcv g)).toNat.testBit k=(BitVec.ofNat 8 (qcv f) &&& ~~~BitVec.ofNat 8 (qcv g)).getLsbD k:=rfl
 rw[this,BitVec.getLsbD_and,BitVec.getLsbD_not,BitVec.getLsbD_ofNat,BitVec.getLsbD_ofNat,qcw f k hk,qcw g k hk]
 simp[hk]
theorem ybtx : ∀ k:Fin 8,2 ^ k.val % 256=qcv (fun j=>decide (j=k.val)):=by decide +kernel
theorem qzi (k:Nat) (hk:k<8):((2:Int) ^ k % 256)=(qcv (fun j=>decide (j=k)):Nat):=by
 rw[<-ybtx ⟨k,hk⟩];simp
theorem ybky (f:Nat->Bool) (k:Nat) (hk:k<8):bits .and .u8 (((qcv f:Nat):Int) / 2 ^ k) 1=if f k then 1 else 0:=by
 have hf:=qgg f
 have e:((qcv f:Nat):Int) / 2 ^ k=((qcv f >>> k:Nat):Int):=by
  rw[Nat.shiftRight_eq_div_pow];simp
 have hs:qcv f >>> k<256:=by
  rw[Nat.shiftRight_eq_div_pow];exact Nat.lt_of_le_of_lt (Nat.div_le_self _ _) hf
 rw[e,show (1:Int)=((1:Nat):Int) from rfl,ybkn _ 1 hs (by omega)]
 have:qcv f >>> k &&& 1=if f k then 1 else 0:=by
  have ht:=qcw f k hk
  rw[Nat.testBit_eq_decide_div_mod_eq]at ht
  rw[Nat.and_one_is_mod,Nat.shiftRight_eq_div_pow,<-ht]
  by_cases h:qcv f / 2 ^ k % 2=1
  ·simp[h]
  ·have:qcv f / 2 ^ k % 2=0:=by omega
   simp[this]
 rw[this]
 split <;> rfl
theorem ybgv (x:Nat) (h:x<256):qcv (fun j=>x.testBit j)=x:=ybqy ⟨x,h⟩
def ins (s:Nat->Bool) (n:Nat):Nat->Bool:=fun m=>s m || decide (m=n)
def del (s:Nat->Bool) (n:Nat):Nat->Bool:=fun m=>s m && !decide (m=n)
def join (s t:Nat->Bool):Nat->Bool:=fun m=>s m || t m
theorem qhh {s t:Nat->Bool} {i:Nat} (h:∀ j,j<8->s (8*i+j)=t (8*i+j)):qbq s i=qbq t i:=qgq h
theorem ybbp (s t:Nat->Bool) (i:Nat) (hi:i<32) (ho:∀ m,m / 8 ≠ i->s m=t m):(enc s).setIfInBounds i (.int .u8 (qbq t i))=enc t:=by
 apply Array.ext_getElem?
 intro k
 rw[Array.getElem?_setIfInBounds]
 by_cases hk:k<32
 ·rw[qdh t k hk]
  by_cases e:i=k
  ·subst e;simp[qau,hi]
  ·rw[if_neg e,qdh s k hk,qhh fun j hj=>ho _ (by omega)]
 ·have h1:(enc s)[k]? = none:=by simp[qau];omega
  have h2:(enc t)[k]? = none:=by simp[qau];omega
  rw[h1,h2]
  split <;> simp[qau] <;> omega
theorem ybxj (s:Nat->Bool) (n:Nat) (hn:n<256):(enc s).setIfInBounds (n / 8) (.int .u8 (bits .or .u8 (qbq s (n / 8)) (2 ^ (n % 8) % 256)))=enc (ins s n):=by
 rw[qzi _ (by omega)]
 unfold qbq
 rw[qpb]
 have e:qcv (fun j=>s (8*(n / 8)+j) || decide (j=n % 8))=qbq (ins s n) (n / 8):=qgq fun j hj=>by
  unfold ins
  congr 2
  rw[eq_iff_iff];omega
 rw[e]
 exact ybbp s (ins s n) (n / 8) (by omega) fun m hm=>by
  unfold ins
  rw[decide_eq_false (fun h:m=n=>hm (by rw[h])),Bool.or_false]
theorem ybxh (s:Nat->Bool) (n:Nat) (hn:n<256):(enc s).setIfInBounds (n / 8) (.int .u8 (bits .andNot .u8 (qbq s (n / 8)) (2 ^ (n % 8) % 256)))=enc (del s n):=by
 rw[qzi _ (by omega)]
 unfold qbq
 rw[qpo]
 have e:qcv (fun j=>s (8*(n / 8)+j) && !decide (j=n % 8))=qbq (del s n) (n / 8):=qgq fun j hj=>by
  unfold del
  congr 3
  rw[eq_iff_iff];omega
 rw[e]
 exact ybbp s (del s n) (n / 8) (by omega) fun m hm=>by
  unfold del
  rw[decide_eq_false (fun h:m=n=>hm (by rw[h])),Bool.not_false,Bool.and_true]
theorem qrg {s t:Nat->Bool} (h:∀ m,m<256->s m=t m):enc s=enc t:=by
 apply Array.ext_getElem?
 intro k
 by_cases hk:k<32
 ·rw[qdh s k hk,qdh t k hk,qhh fun j hj=>h _ (by omega)]
 ·have h1:(enc s)[k]? = none:=by simp[qau];omega
  have h2:(enc t)[k]? = none:=by simp[qau];omega
  rw[h1,h2]
def qpv (s r:Nat->Bool) (k:Nat):Nat->Bool:=fun m=>if m<8*k then r m else s m
theorem ybxk (s r:Nat->Bool) (k:Nat) (hk:k<32):(enc (qpv s r k)).setIfInBounds k (.int .u8 (qbq r k))=enc (qpv s r (k+1)):=by
 have e:qbq r k=qbq (qpv s r (k+1)) k:=qhh fun j hj=>by unfold qpv;rw[if_pos (by omega)]
 rw[e]
 refine ybbp _ _ k hk fun m hm=>?_
 unfold qpv
 by_cases h:m<8*k
 ·rw[if_pos h,if_pos (by omega)]
 ·rw[if_neg h,if_neg (by omega)]
theorem ybgt (s r:Nat->Bool) (k:Nat):qbq (qpv s r k) k=qbq s k:=qhh fun j hj=>by unfold qpv;rw[if_neg (by omega)]
theorem ybrs (s r:Nat->Bool):enc (qpv s r 0)=enc s:=qrg fun m _=>by unfold qpv;rw[if_neg (by omega)]
theorem yblf (s r:Nat->Bool):enc (qpv s r 32)=enc r:=qrg fun m hm=>by unfold qpv;rw[if_pos (by omega)]
theorem ybbd (s t:Nat->Bool) (k:Nat):bits .or .u8 (qbq s k) (qbq t k)=(qbq (join s t) k:Nat):=qpb _ _
theorem ybmh : ∀ k:Fin 8,(255:Nat).testBit k.val=true:=by decide
theorem ybbc {s:Nat->Bool} {i:Nat} (h:qbq s i=255) (j:Nat) (hj:j<8):s (8*i+j)=true:=by
 have:=qcw (fun j=>s (8*i+j)) j hj
 rw[show qcv (fun j=>s (8*i+j))=255 from h]at this
 rw[<-this]
 exact ybmh ⟨j,hj⟩
variable {P : Program}
theorem qpk {t:TypeId} {d:TypeDesc} (h:P.underlying t=some d) (w:World):(isAgg t).run P w=.ok (match d with | .struct _ | .array _ _=>true | _=>false) w:=by
 unfold isAgg
 rw[Sem.run_bind,run_underlying h w]
 cases d <;> simp
theorem qjb {t:TypeId} {n:Nat} (h:(P.info? t).map (·.size)=some n) (w:World):(sizeOf t).run P w=.ok n w:=by
 cases hq:P.info? t with
 | none=>simp[hq]at h
 | some i=>simp[hq]at h;simp[sizeOf,typeInfo,hq,h]
theorem qke {t:TypeId} {k:IntKind} (h:P.underlying t=some (.int k)) (cs:Array Value) (off:Nat) (v:Value) (hv:cs[off]? = some v) (w:World):(part t cs off).run P w=.ok v w:=by
 unfold part
 rw[Sem.run_bind,qpk h w]
 simp[hv]
theorem ybab {t:TypeId} {d:TypeDesc} (h:P.underlying t=some d) (hd:(match d with | .struct _ | .array _ _=>true | _=>false)=true) {n:Nat} (hn:(P.info? t).map (·.size)=some n) (cs:Array Value) (off:Nat) (w:World):
  (part t cs off).run P w=.ok (.agg (cs.extract off (off+n))) w:=by
 unfold part
 rw[Sem.run_bind,qpk h w,hd]
 simp[qjb hn w]
theorem qey (t e:TypeId) (n:Nat) (ke:IntKind) (cs:Array Value) (k:IntKind) (i:Int) (h:P.underlying t=some (.array n e)) (he:P.underlying e=some (.int ke)) (hs:(P.info? e).map (·.size)=some 1)
  (h0:0<=i) (h1:i<n) (v:Value) (hv:cs[i.toNat]? = some v) (w:World):(Instr.index t (.agg cs) (.int k i)).run P w=.ok v w:=by
 simp only[Instr.index,asIntOf,Sem.run_bind,Sem.run_pure,Result.andThen_ok,run_underlying h]
 rw[if_pos ⟨h0,h1⟩]
 simp only[Sem.run_bind,qjb hs,Result.andThen_ok,Nat.mul_one]
 exact qke he cs _ v hv w
theorem qbh {ops:Array Oper} {rest:List Oper} {o:Oper} {a:Act} {w:World} {Q:Exit->Act->World->Prop} (hgd:o.guard=none) (ty:TypeId) (ho:o.op=.alloc ty)
  (Z:Array Value) (hz:∀ w,(zeroValue ty).run P w=.ok (.agg Z) w)
  (h:wpList P ops Q rest (a.put o.dst (.pointer (some ⟨w.heap.size,0,none⟩))) (w.alloc (.cells Z ty))):wpList P ops Q (o :: rest) a w:=
 wpList_plain hgd fun _ hK=>by
  unfold Oper.wp execOp
  simp only[ho,Instr.alloc,Sem.run_bind,hz,Result.andThen_ok,newVar,Value.cells]
  exact hK _ _ h
theorem qlq {ops:Array Oper} {rest:List Oper} {o:Oper} {a:Act} {w:World} {Q:Exit->Act->World->Prop} (hw:Region.wanted o (yielded ops a.tmps)=true)
  (h:∀ K:Act->World->Prop,(∀ a w,wpList P ops Q rest a w->K a w)->o.wp P a w K Q):wpList P ops Q (o :: rest) a w:=
 wpList_step fun K hK=>by rw[if_pos hw];exact h K hK
theorem qin {ops:Array Oper} {rest:List Oper} {o:Oper} {a:Act} {w:World} {Q:Exit->Act->World->Prop} (hw:Region.wanted o (yielded ops a.tmps)=true) (ty:TypeId) (x:Operand) (ho:o.op=.load ty x)
  (g:Nat) (hx:a.eval x=.pointer (some ⟨g,0,none⟩)) (t:TypeId) (cs:Array Value) (fr:Nat × Nat) (d:TypeDesc) (hg:w.heap[g]? = some (.cells cs t fr))
  (hu:P.underlying ty=some d) (hd:(match d with | .struct _ | .array _ _=>true | _=>false)=true) (hi:(P.info? ty).map (·.size)=some cs.size)
  (h:wpList P ops Q rest (a.put o.dst (.agg cs)) w):wpList P ops Q (o :: rest) a w:=
 qlq hw fun _ hK=>wp_load_row ty x ho g hx t cs fr d hg hu hd hi (hK _ _ h)
theorem qaa {w w':World} (h:Below w.heap.size w w') {i:Nat} {o:Obj} (hi:w.heap[i]? = some o):w'.heap[i]? = some o:=
 (h.block _ (Array.getElem?_eq_some_iff.1 hi).1).trans hi
theorem qad {w:World} {i:Nat} {o:Obj} (hi:w.heap[i]? = some o) (x:Obj):(w.alloc x).heap[i]? = some o:=
 (Below.heap_alloc w x i (Array.getElem?_eq_some_iff.1 hi).1).trans hi
theorem qeb {w:World} {i:Nat} {o:Obj} (hi:w.heap[i]? = some o) (g:Nat) (cs:Array Value) (hg:i ≠ g):(w.setRow g cs).heap[i]? = some o:=
 (setRow_other w g i cs hg).trans hi
theorem qac {w:World} {i:Nat} {o:Obj} (hi:w.heap[i]? = some o):i<w.heap.size:=(Array.getElem?_eq_some_iff.1 hi).1
theorem Below.step {w w1 w2:World} (h:Below w.heap.size w w1) (k:Below w1.heap.size w1 w2):Below w.heap.size w w2:=h.trans (k.mono h.size)
def qea (xs ys:Array Value) (off n:Nat):Prop:=∀ j,j<n->∃ k a b,xs[off+j]? = some (.int k a)/\ys[off+j]? = some (.int k b)
def qaz (xs ys:Array Value) (off:Nat):Nat->Bool
 | 0=>true
 | n+1=>qaz xs ys off n && (match xs[off+n]?,ys[off+n]? with | some (.int _ a),some (.int _ b)=>a == b | _,_=>false)
theorem qhc (xs ys:Array Value) (off m:Nat):∀ n,qaz xs ys off (m+n)=(qaz xs ys off m && qaz xs ys (off+m) n)
 | 0=>by simp[qaz]
 | n+1=>by
  rw[<-Nat.add_assoc]
  simp only[qaz]
  rw[qhc xs ys off m n,Bool.and_assoc,Nat.add_assoc]
theorem qim (xs ys:Array Value) (off m o:Nat):∀ n,o+n<=m->qaz (xs.extract off (off+m)) (ys.extract off (off+m)) o n=qaz xs ys (off+o) n
 | 0,_=>rfl
 | n+1,h=>by
  simp only[qaz]
  rw[qim xs ys off m o n (by omega)]
  have e:∀ zs:Array Value,(zs.extract off (off+m))[o+n]? = zs[off+o+n]? :=fun zs=>by
   rw[Array.getElem?_extract]
   by_cases hz:o+n<min (off+m) zs.size - off
   ·rw[if_pos hz,Nat.add_assoc]
   ·rw[if_neg hz,eq_comm,Array.getElem?_eq_none (by omega)]
  rw[e xs,e ys]
theorem qea.extract {xs ys:Array Value} {off m o n:Nat} (h:qea xs ys (off+o) n) (hm:o+n<=m):qea (xs.extract off (off+m)) (ys.extract off (off+m)) o n:=fun j hj=>by
 obtain⟨k,a,b,h1,h2⟩:=h j hj
 have e:∀ (zs:Array Value) v,zs[off+o+j]? = some v->(zs.extract off (off+m))[o+j]? = some v:=fun zs v hz=>by
  have hl:=(Array.getElem?_eq_some_iff.1 hz).1
  rw[Array.getElem?_extract,if_pos (by omega),<-Nat.add_assoc];exact hz
 exact⟨k,a,b,e xs _ h1,e ys _ h2⟩
def qir (P:Program) (d:Nat) (t:TypeId) (n:Nat):Prop:=
 ∀ (w:World) (xs ys:Array Value) (off:Nat),qea xs ys off n ->
  (do let a <-part t xs off;let b <-part t ys off;Op.equalIn d t a b).run P w=.ok (qaz xs ys off n) w
theorem qlh {d:Nat} {t:TypeId} {k:IntKind} (h:P.underlying t=some (.int k)):qir P (d+1) t 1:=fun w xs ys off hc=>by
 obtain⟨k',a,b,h1,h2⟩:=hc 0 (by omega)
 simp only[Nat.add_zero]at h1 h2
 simp only[Sem.run_bind,qke h xs off _ h1 w,qke h ys off _ h2 w,Result.andThen_ok]
 rw[run_equalIn_int w d t k' k a b h]
 simp[qaz,h1,h2]
theorem qvc {d:Nat} {e:TypeId} {n:Nat} (he:qir P d e n) (xs ys:Array Value):∀ (l s:Nat) (w:World),qea xs ys (s*n) (l*n) ->
  (forIn (List.range' s l) ((none,()):Option Bool × PUnit) fun i _=>(do
    let a <-part e xs (i*n)
    let b <-part e ys (i*n)
    let r <-Op.equalIn d e a b
    if (!r)=true then pure (ForInStep.done (some false,())) else pure (ForInStep.yield (none,())):Sem (ForInStep (Option Bool × PUnit)))).run P w
   = .ok (if qaz xs ys (s*n) (l*n) then (none,()) else (some false,())) w
 | 0,s,w,_=>by simp[qaz]
 | l+1,s,w,hc=>by
  have e1:(l+1)*n=n+l*n:=by rw[Nat.add_mul,Nat.one_mul,Nat.add_comm]
  rw[List.range'_succ,List.forIn_cons]
  have h0:=he w xs ys (s*n) (fun j hj=>hc j (by rw[e1];omega))
  have h0':(do let a <-part e xs (s*n);let b <-part e ys (s*n);let r <-Op.equalIn d e a b;if (!r)=true then pure (ForInStep.done (some false,())) else pure (ForInStep.yield (none,())):Sem (ForInStep (Option Bool × PUnit))).run P w
    = ((do let a <-part e xs (s*n);let b <-part e ys (s*n);Op.equalIn d e a b:Sem Bool).run P w).andThen fun r w'=>((if (!r)=true then pure (ForInStep.done (some false,())) else pure (ForInStep.yield (none,())):Sem (ForInStep (Option Bool × PUnit)))).run P w':=by
   simp only[Sem.run_bind]
   cases (part e xs (s*n)).run P w <;> simp[Result.andThen]
   rename_i a w1
   cases (part e ys (s*n)).run P w1 <;> simp
  rw[Sem.run_bind,h0',h0]
  simp only[Result.andThen_ok]
  rw[e1,qhc]
  by_cases hs:qaz xs ys (s*n) n=true
  ·simp only[hs,Bool.not_true,Bool.false_eq_true,if_false,Sem.run_pure,Result.andThen_ok,Bool.true_and]
   have:=qvc he xs ys l (s+1) w (fun j hj=>by
    have:=hc (n+j) (by rw[e1];omega)
    rw[Nat.add_mul,Nat.one_mul,Nat.add_assoc];exact this)
   rw[Nat.add_mul,Nat.one_mul]at this
   exact this
  ·simp only[Bool.not_eq_true]at hs
   simp only[hs,Bool.not_false,if_true,Sem.run_pure,Result.andThen_ok,Bool.false_and,Bool.false_eq_true,if_false]
theorem qkd {d:Nat} {t e:TypeId} {len n:Nat} (h:P.underlying t=some (.array len e)) (hn:(P.info? e).map (·.size)=some n) (he:qir P d e n) (xs ys:Array Value) (w:World)
  (hc:qea xs ys 0 (len*n)):(Op.equalIn (d+1) t (.agg xs) (.agg ys)).run P w=.ok (qaz xs ys 0 (len*n)) w:=by
 simp only[Op.equalIn,Sem.run_bind,run_underlying h,Result.andThen_ok,qjb hn]
 rw[Std.Legacy.Range.forIn_eq_forIn_range']
 have:=qvc he xs ys len 0 w (by simpa using hc)
 simp only[Std.Legacy.Range.size,Nat.sub_zero,Nat.add_sub_cancel,Nat.div_one]
 simp only[Nat.zero_mul]at this
 rw[this]
 by_cases hs:qaz xs ys 0 (len*n)=true
 ·simp[hs]
 ·simp only[Bool.not_eq_true]at hs;simp[hs]
theorem qmj {d:Nat} {t e:TypeId} {len n:Nat} (h:P.underlying t=some (.array len e)) (hn:(P.info? e).map (·.size)=some n) (ht:(P.info? t).map (·.size)=some (len*n)) (he:qir P d e n):qir P (d+1) t (len*n):=fun w xs ys off hc=>by
 simp only[Sem.run_bind,ybab h rfl ht,Result.andThen_ok]
 rw[qkd h hn he _ _ w (qea.extract (o:=0) (by simpa using hc) (by omega)),qim _ _ _ _ _ _ (by omega)]
 rfl
theorem qst {d : Nat} {t : TypeId} {f g : Field} {n m : Nat} (h : P.underlying t = some (.struct #[f, g])) (hp : P.stoodInHeld t = false) (hf : f.name ≠ "_") (hg : g.name ≠ "_")
  (hof:f.offset=0) (hog:g.offset=n) (hef:qir P d f.type n) (heg:qir P d g.type m) (xs ys:Array Value) (w:World) (hc:qea xs ys 0 (n+m)):
  (Op.equalIn (d+1) t (.agg xs) (.agg ys)).run P w=.ok (qaz xs ys 0 (n+m)) w:=by
 have hfl:P.fieldsOf t=#[f,g]:=by simp[Program.fieldsOf,h]
 rw[run_equalIn_struct w d t xs ys (by rw[hfl];exact h) hp,hfl]
 have h1:=hef w xs ys 0 (fun j hj=>hc j (by omega))
 have h2:=heg w xs ys n (fun j hj=>by have:=hc (n+j) (by omega);simpa using this)
 rw[qhc]
 simp only[Nat.zero_add]
 simp only[Sem.run_bind]at h1 h2
 simp only[Op.eqFields,hf,hg,hof,hog,ne_eq,not_false_eq_true,if_true,Sem.run_bind]
 cases h3:(part f.type xs 0).run P w with
 | halt x w1=>rw[h3]at h1;simp[Result.andThen]at h1
 | ok a w1=>
  rw[h3]at h1
  simp only[Result.andThen_ok]at h1 ⊢
  cases h4:(part f.type ys 0).run P w1 with
  | halt x w2=>rw[h4]at h1;simp[Result.andThen]at h1
  | ok b w2=>
   rw[h4]at h1
   simp only[Result.andThen_ok]at h1 ⊢
   rw[h1]
   simp only[Result.andThen_ok]
   by_cases hs:qaz xs ys 0 n=true
   ·simp only[hs,Bool.not_true,Bool.false_eq_true,if_false,Bool.true_and]
    cases h5:(part g.type xs n).run P w with
    | halt x w3=>rw[h5]at h2;simp[Result.andThen]at h2
    | ok a' w3=>
     rw[h5]at h2
     simp only[Result.andThen_ok,Sem.run_bind]at h2 ⊢
     cases h6:(part g.type ys n).run P w3 with
     | halt x w4=>rw[h6]at h2;simp[Result.andThen]at h2
     | ok b' w4=>
      rw[h6]at h2
      simp only[Result.andThen_ok]at h2
      rw[h5]
      simp only[Result.andThen_ok]
      rw[h6]
      simp only[Result.andThen_ok]
      rw[h2]
      simp only[Result.andThen_ok]
      by_cases ht:qaz xs ys n m=true
      ·simp[ht]
      ·simp only[Bool.not_eq_true]at ht;simp[ht]
   ·simp only[Bool.not_eq_true]at hs;simp[hs]
theorem qno {xs ys:Array Value}:∀ {n:Nat},qea xs ys 0 n->(qaz xs ys 0 n=true ↔ ∀ j,j<n->xs[j]? = ys[j]?)
 | 0,_=>by simp[qaz]
 | n+1,hc=>by
  have ih:=qno (n:=n) (fun j hj=>hc j (by omega))
  obtain⟨k,a,b,h1,h2⟩:=hc n (by omega)
  simp only[Nat.zero_add]at h1 h2
  simp only[qaz,Bool.and_eq_true,Nat.zero_add,h1,h2,ih,beq_iff_eq]
  constructor
  ·rintro ⟨hx,rfl⟩ j hj
   by_cases e:j=n
   ·subst e;rw[h1,h2]
   ·exact hx j (by omega)
  ·intro hx
   refine⟨fun j hj=>hx j (by omega),?_⟩
   have:=hx n (by omega)
   rw[h1,h2]at this
   simpa using this
theorem ybac {xs ys:Array Value} {n:Nat} (hx:xs.size=n) (hy:ys.size=n) (hc:qea xs ys 0 n):qaz xs ys 0 n=true ↔ xs=ys:=by
 rw[qno hc]
 constructor
 ·intro h
  apply Array.ext_getElem?
  intro j
  by_cases hj:j<n
  ·exact h j hj
  ·rw[Array.getElem?_eq_none (by omega),Array.getElem?_eq_none (by omega)]
 ·rintro rfl j _;rfl
end Go.Proofs.YtpoglnpjadmbpaaGreatDoor
namespace Go.Proofs.YtpoglnpjadmbpaaGreatDoor
open Go.RowKit
def qai (w:World) (v:Value) (k n:Nat) (xs:List Value):Prop:=
 xs.length=n*k/\((n=0/\∃ a cap,v=.slice a 0 cap)\/∃ g off cap,v=.slice (some ⟨g,off,none⟩) n cap/\∀ (j:Nat) (x:Value),xs[j]? = some x->w.cell? ⟨g,off+j,none⟩=some x)
def ints (l:List Int):List Value:=l.map fun n=>Value.int .i64 n
def qao (w:World) (v:Value) (l:List Int):Prop:=qai w v 1 l.length (ints l)
theorem qai.below {w w':World} {v:Value} {k n:Nat} {xs:List Value} (h:qai w v k n xs) (hb:Below w.heap.size w w'):qai w' v k n xs:=by
 obtain⟨h1,h2⟩:=h
 refine⟨h1,h2.imp id ?_⟩
 rintro ⟨g,off,cap,hv,hc⟩
 exact⟨g,off,cap,hv,fun j x hx=>(hb.cell (block_lt_of_cell (hc j x hx))).trans (hc j x hx)⟩
theorem qai.of_owns {w:World} {base:Nat} {e:TypeId} {v:Value} {k n:Nat} {xs:List Value} (h:w.ownsRow base e k v n xs):qai w v k n xs:=by
 obtain⟨h1,h2⟩:=h
 refine⟨h1,h2.imp (fun ⟨a,b⟩=>⟨b,none,0,a⟩) ?_⟩
 rintro ⟨g,cap,cur,hv,_,hh,_,_,_,ht⟩
 refine⟨g,0,cap,hv,fun j x hx=>?_⟩
 rw[Nat.zero_add,cell_of_row _ _ _ _ _ _ hh]
 rw[<-ht,List.getElem?_take]at hx
 split at hx
 ·simpa using hx
 ·cases hx
theorem qdn (l:List Int) (j:Nat) (hj:j<l.length):(ints l)[j]? = some (.int .i64 (l[j])):=by simp[ints,hj]
def badP (p:Int):Bool:=decide (p<0) || decide (256<=p)
def qca (l:List Int):Int:=if 8<l.length then 2 else if l.any badP then 1 else 0
def qtp (x:Int × Int) (p:Int):Bool:=if x.1=0 then p == 0 else p == x.1+x.2
def qns (out:List (Int × Int)) (p:Int):List (Int × Int):=
 match out with
 | []=>[(p,1)]
 | x :: r=>if qtp x p then (x.1,x.2+1) :: r else (p,1) :: x :: r
def ofR (l:List Int):List (Int × Int):=l.foldl qns []
def ofE (l:List Int):List (Int × Int):=(ofR l).reverse
def qbw (l:List (Int × Int)):List Value:=l.flatMap fun x=>[.int .i64 x.1,.int .i64 x.2]
theorem qsi (l:List (Int × Int)):(qbw l).length=l.length*2:=by
 induction l with
 | nil=>rfl
 | cons x l ih=>simp only[qbw,List.flatMap_cons,List.length_append,List.length_cons,List.length_nil]at *;omega
theorem qdm (a b:List (Int × Int)):qbw (a++b)=qbw a++qbw b:=by simp[qbw]
theorem ybix (r:List (Int × Int)) (x:Int × Int):(qbw (r++[x]))[r.length*2]? = some (.int .i64 x.1)/\(qbw (r++[x]))[r.length*2+1]? = some (.int .i64 x.2):=by
 rw[qdm]
 have h:=qsi r
 constructor
 ·rw[List.getElem?_append_right (by omega),show r.length*2 - (qbw r).length=0 by omega];rfl
 ·rw[List.getElem?_append_right (by omega),show r.length*2+1 - (qbw r).length=1 by omega];rfl
theorem qtr (r:List (Int × Int)) (a b c:Int):(qbw (r++[(a,b)])).set (r.length*2+1) (.int .i64 c)=qbw (r++[(a,c)]):=by
 rw[qdm,qdm]
 have h:=qsi r
 rw[List.set_append_right _ _ (by omega),show r.length*2+1 - (qbw r).length=1 by omega]
 rfl
theorem ybpg (p:Int):qns [] p=[(p,1)]:=rfl
theorem ybph {x:Int × Int} {r:List (Int × Int)} {p:Int} (h:qtp x p=true):qns (x :: r) p=(x.1,x.2+1) :: r:=by simp[qns,h]
theorem ybuv {x:Int × Int} {r:List (Int × Int)} {p:Int} (h:qtp x p=false):qns (x :: r) p=(p,1) :: x :: r:=by simp[qns,h]
theorem qig (w:World) (c:Array Value) (t:TypeId) (j:Nat) (u:Value) (h:c.toList[j]? = some u):(w.alloc (.cells c t)).cell? ((⟨w.heap.size,0,none⟩:Addr).add j)=some u:=by
 have hadd:(⟨w.heap.size,0,none⟩:Addr).add j=⟨w.heap.size,j,none⟩:=by unfold Addr.add;split <;> simp_all
 rw[hadd,cell_of_row _ _ j c t (0,0) (heap_alloc_new w _)]
 simpa using h
theorem qap {w w':World} {base:Nat} {e:TypeId} {size:Nat} {v:Value} {n:Nat} {xs:List Value} (h:w.ownsRow base e size v n xs) (hb:Below w.heap.size w w'):w'.ownsRow base e size v n xs:=by
 obtain⟨h1,h2⟩:=h
 refine⟨h1,?_⟩
 rcases h2 with h2 | ⟨g,cap,cur,hv,hg,hh,r⟩
 ·exact Or.inl h2
 ·exact Or.inr ⟨g,cap,cur,hv,hg,qaa hb hh,r⟩
theorem qat {w:World} {base:Nat} {e:TypeId} {size:Nat} {v:Value} {n:Nat} {xs:List Value} (h:w.ownsRow base e size v n xs):
  ∃ q cap,v=.slice q n cap/\(0<n->∃ g,q=some ⟨g,0,none⟩/\base<=g/\∀ (j:Nat) (x:Value),xs[j]? = some x->w.cell? ⟨g,j,none⟩=some x):=by
 obtain⟨h1,⟨rfl,h2⟩ | ⟨g,cap,cur,rfl,hg,hh,_,_,_,ht⟩⟩:=h
 ·exact⟨none,0,by rw[h2],fun h=>by omega⟩
 ·refine⟨_,cap,rfl,fun _=>⟨g,rfl,hg,fun j x hx=>?_⟩⟩
  rw[cell_of_row _ _ _ _ _ _ hh]
  rw[<-ht,List.getElem?_take]at hx
  split at hx
  ·simpa using hx
  ·cases hx
theorem qzm (l:List (Int × Int)) (k:Nat) (hk:k<l.length):(qbw l)[k*2]? = some (.int .i64 l[k].1)/\(qbw l)[k*2+1]? = some (.int .i64 l[k].2):=by
 induction l generalizing k with
 | nil=>simp at hk
 | cons x l ih=>
  cases k with
  | zero=>simp[qbw]
  | succ k=>
   have:=ih k (by simpa using hk)
   have e1:(k+1)*2=k*2+1+1:=by omega
   rw[e1]
   simp only[qbw,List.flatMap_cons,List.cons_append,List.nil_append,List.getElem?_cons_succ,List.getElem_cons_succ]at *
   exact this
def qch (ns:List Int):ByteArray:=ns.foldl (fun r n=>r.push (UInt8.ofNat n.toNat)) ByteArray.empty
theorem qez {P:Program} (w:World) (src dst e:TypeId) (g off cap n:Nat) (ns:List Int) (hn:ns.length=n) (hs:P.underlying src=some (.slice e)) (he:P.underlying e=some (.int .u8)) (hd:P.underlying dst=some .string)
  (hc:∀ (j:Nat) (v:Value),(ns.map (Value.int .u8))[j]? = some v->w.cell? ⟨g,off+j,none⟩=some v):
  (convert src dst (.slice (some ⟨g,off,none⟩) n cap)).run P w=.ok (.string (qch ns)) w:=by
 subst hn
 rw[run_convert_bytes_string w src dst e _ _ _ hs he hd]
 refine run_bytesToString w ⟨g,off,none⟩ ns.length cap ns ?_
 have:=run_loadCells_list (P:=P) w ⟨g,off,none⟩ (ns.map (Value.int .u8)) (fun j v hv=>by
  have hadd:(⟨g,off,none⟩:Addr).add j=⟨g,off+j,none⟩:=by unfold Addr.add;split <;> simp_all
  rw[hadd];exact hc j v hv)
 rw[List.length_map]at this
 exact this
def okR (n:Nat) (out:List (Int × Int)):Prop:=∀ x,x ∈ out->0<=x.1/\x.1<=255/\1<=x.2/\x.2<=n
theorem ybdq {n:Nat} {out:List (Int × Int)} (h:okR n out) (p:Int) (h0:0<=p) (h1:p<=255):okR (n+1) (qns out p):=by
 intro x hx
 cases out with
 | nil=>
  simp only[qns,List.mem_singleton]at hx
  subst hx;simp only;omega
 | cons y r=>
  simp only[qns]at hx
  split at hx
  ·rcases List.mem_cons.1 hx with rfl | hx
   ·have:=h y (by simp);simp only;omega
   ·have:=h x (by simp[hx]);omega
  ·rcases List.mem_cons.1 hx with rfl | hx
   ·simp only;omega
   ·have:=h x hx;omega
theorem ybpf (out:List (Int × Int)) (p:Int):(qns out p).length<=out.length+1:=by
 cases out with
 | nil=>simp[qns]
 | cons y r=>simp only[qns];split <;> simp
theorem ybfm (l:List Int) (p:Int):ofR (l++[p])=qns (ofR l) p:=by simp[ofR]
theorem qzg : ∀ (n:Nat) (l:List Int),l.length=n->(∀ p,p ∈ l->0<=p/\p<=255)->okR n (ofR l)/\(ofR l).length<=n
 | 0,l,hl,_=>by
  have:l=[]:=List.length_eq_zero_iff.1 hl
  subst this
  exact⟨fun x hx=>by simp[ofR]at hx,by simp[ofR]⟩
 | n+1,l,hl,h=>by
  obtain⟨m,p,rfl⟩:∃ m p,l=m++[p]:=⟨l.dropLast,l.getLast (by intro e;subst e;simp at hl),(List.dropLast_concat_getLast _).symm⟩
  have ih:=qzg n m (by simpa using hl) (fun q hq=>h q (by simp[hq]))
  have hp:=h p (by simp)
  rw[ybfm]
  exact⟨ybdq ih.1 p hp.1 hp.2,by have:=ybpf (ofR m) p;omega⟩
def u8s (l:List Int):List Value:=l.map fun n=>Value.int .u8 n
def qaf (w:World) (v:Value) (l:List Int):Prop:=qai w v 1 l.length (u8s l)
theorem qcj (l:List Int) (j:Nat) (hj:j<l.length):(u8s l)[j]? = some (.int .u8 (l[j])):=by simp[u8s,hj]
theorem qal (l:List Int):(u8s l).length=l.length:=by simp[u8s]
theorem qbj (a b:List Int):u8s (a++b)=u8s a++u8s b:=by simp[u8s]
theorem qdf (l:List Int) (n:Nat):u8s (l.take n)=(u8s l).take n:=by simp[u8s]
theorem qdq (l:List Int) (n:Nat):u8s (l.drop n)=(u8s l).drop n:=by simp[u8s]
theorem qga (l:List Int):∀ v ∈ u8s l,v.oneCell'=true:=by
 intro v hv
 simp only[u8s,List.mem_map]at hv
 obtain⟨b,_,rfl⟩:=hv
 rfl
def upd (D:Nat->Bool) (i:Nat):Nat->Bool:=fun j=>D j || decide (j=i)
theorem qnw (D:Nat->Bool) (i:Nat):upd D i i=true:=by simp[upd]
theorem qen {D:Nat->Bool} {i j:Nat} (h:j ≠ i):upd D i j=D j:=by simp[upd,h]
theorem qzh {D:Nat->Bool} {i j:Nat} (h:upd D i j=true) (hn:j ≠ i):D j=true:=by rwa [qen hn]at h
def left : List Bool->Nat
 | []=>0
 | b :: l=>(if b then 0 else 1)+left l
theorem ybff : ∀ (l:List Bool) (i:Nat),l[i]? = some false->left (l.set i true)+1=left l
 | [],i,h=>by simp at h
 | b :: l,0,h=>by simp at h;subst h;simp[left,Nat.add_comm]
 | b :: l,i+1,h=>by
  have:=ybff l i (by simpa using h)
  simp only[List.set_cons_succ,left]
  omega
theorem qyw : ∀ (l:List Bool),left l=0->∀ (i:Nat) (b:Bool),l[i]? = some b->b=true
 | [],_,i,b,h=>by simp at h
 | c :: l,h0,0,b,h=>by
  simp at h;subst h
  cases c
  ·simp[left]at h0
  ·rfl
 | c :: l,h0,i+1,b,h=>by
  refine qyw l ?_ i b (by simpa using h)
  simp only[left]at h0;omega
def qsq (l:List Oper):Bool:=l.zipIdx.all fun (o,i)=>o.after.all fun e=> !Region.binds .any e || decide (e.on<i)
section
variable {P : Program} {l : List Oper} {Q : Exit -> Act -> World -> Prop}
theorem ybqq (hr:qsq l=true) (L:Array Bool) (hL:L.size=l.length) (h:Region.ready .any l.toArray L=[]):∀ n i,i<n->i<l.length->L.getD i false=true:=by
 intro n
 induction n with
 | zero=>intro i hi;omega
 | succ n ih=>
  intro i hi hil
  cases hb:L.getD i false with
  | true=>rfl
  | false=>
   exfalso
   have hm:i ∈ Region.ready .any l.toArray L:=by
    refine mem_ready.2 ⟨?_,l[i],by simp[hil],fun e he hbe=>?_⟩
    ·have hlt:i<L.size:=by omega
     simp[hlt]at hb ⊢;exact hb
    ·have h1:=(List.all_eq_true.1 hr) (l[i],i) (List.mk_mem_zipIdx_iff_getElem?.2 (by simp[hil]))
     have h2:=(Array.all_eq_true_iff_forall_mem.1 h1) e he
     simp[hbe]at h2
     exact ih e.on (by omega) (by omega)
   rw[h]at hm
   cases hm
theorem ybpz (hr:qsq l=true) (I:(Nat->Bool)->Act->World->Prop)
  (hstep:∀ (D:Nat->Bool) (a:Act) (w:World),I D a w->∀ (i:Nat) (o:Oper),l[i]? = some o->D i=false->(∀ e ∈ o.after,Region.binds .any e=true->D e.on=true) ->
   if Region.wanted o (yielded l.toArray a.tmps) then o.wp P a w (fun a' w'=>I (upd D i) a' w') Q else I (upd D i) (a.put o.dst undef) w)
  (hend:∀ (D:Nat->Bool) (a:Act) (w:World),I D a w->(∀ i,i<l.length->D i=true)->Q .normal a w):
  ∀ (fuel:Nat) (L:Array Bool) (a:Act) (w:World),L.size=l.length->left L.toList<=fuel->I (fun j=>L.getD j false) a w->wpAny P .any l.toArray Q fuel L a w:=by
 intro fuel
 induction fuel with
 | zero=>
  intro L a w hL hf hI
  have hd:∀ i,i<l.length->L.getD i false=true:=fun i hi=>by
   have hlt:i<L.size:=by omega
   have:=qyw L.toList (by omega) i L[i] (by simp[hlt])
   simp[hlt,this]
  refine⟨?_,hend _ _ _ hI hd⟩
  cases hrd:Region.ready .any l.toArray L with
  | nil=>rfl
  | cons i rest=>
   exfalso
   have hm:i ∈ Region.ready .any l.toArray L:=by rw[hrd];simp
   obtain⟨h1,o,ho,_⟩:=mem_ready.1 hm
   have hil:i<l.length:=by simpa using (Array.getElem?_eq_some_iff.1 ho).1
   have h2:=hd i hil
   have hlt:i<L.size:=by omega
   simp[hlt]at h1 h2
   rw[h1]at h2;cases h2
 | succ fuel ih=>
  intro L a w hL hf hI
  refine⟨fun hrd=>hend _ _ _ hI fun i hi=>ybqq hr L hL hrd (i+1) i (by omega) hi,fun i hi=>?_⟩
  obtain⟨h1,o,ho,h3⟩:=mem_ready.1 hi
  have hil:i<l.length:=by simpa using (Array.getElem?_eq_some_iff.1 ho).1
  have hlt:i<L.size:=by omega
  have hst:=hstep _ a w hI i o (by simpa using ho) (by simp[hlt]at h1;simp[hlt,h1]) h3
  have hfalse:L.toList[i]? = some false:=by
   simp[hlt]at h1
   simp[hlt,h1]
  have hnext:∀ a' w',I (upd (fun j=>L.getD j false) i) a' w'->wpAny P .any l.toArray Q fuel (L.setIfInBounds i true) a' w':=fun a' w' hI'=>by
   refine ih _ a' w' (by simpa using hL) ?_ ?_
   ·have:=ybff L.toList i hfalse
    simp only[Array.toList_setIfInBounds]
    omega
   ·have e:(fun j=>(L.setIfInBounds i true).getD j false)=upd (fun j=>L.getD j false) i:=by
     funext j
     unfold upd
     by_cases hj:j=i
     ·subst hj;simp[hlt]
     ·rw[getD_set_ne false (fun h=>hj h.symm)];simp[hj]
    rw[e];exact hI'
  unfold wpOp
  rw[ho]
  simp only
  split
  ·rename_i hw
   rw[if_pos hw]at hst
   exact Or.inl (Oper.wp_mono hnext hst)
  ·rename_i hw
   rw[if_neg hw]at hst
   exact hnext _ _ hst
theorem qje {id:Nat} {a:Act} {w:World} (hm:P.follows .mixedOrders=true) (hr:qsq l=true) (I:(Nat->Bool)->Act->World->Prop)
  (h0:I (fun _=>false) a w.drew)
  (hstep:∀ (D:Nat->Bool) (a:Act) (w:World),I D a w->∀ (i:Nat) (o:Oper),l[i]? = some o->D i=false->(∀ e ∈ o.after,Region.binds .any e=true->D e.on=true) ->
   if Region.wanted o (yielded l.toArray a.tmps) then o.wp P a w (fun a' w'=>I (upd D i) a' w') Q else I (upd D i) (a.put o.dst undef) w)
  (hend:∀ (D:Nat->Bool) (a:Act) (w:World),I D a w->(∀ i,i<l.length->D i=true)->Q .normal a w):(Code.region id l.toArray true).wp P Q a w:=by
 refine wp_region_any hm (ybpz hr I hstep hend _ _ _ _ (by simp) ?_ ?_)
 ·have:∀ n,left (List.replicate n false)=n:=fun n=>by
   induction n with
   | zero=>rfl
   | succ n ih=>rw[List.replicate_succ];simp only[left,ih];simp;omega
  simp[this]
 ·have e:(fun j=>(Array.replicate l.toArray.size false).getD j false)=fun _=>false:=by
   funext j
   simp only[Array.getD_eq_getD_getElem?,Array.getElem?_replicate]
   split <;> rfl
  rw[e];exact h0
end
section
variable {P : Program} {o : Oper} {a : Act} {w : World} {K : Act -> World -> Prop} {Q : Exit -> Act -> World -> Prop}
theorem qkr {ops:Array Oper} {X:Prop} (hg:o.guard=none) (h:o.wp P a w K Q):if Region.wanted o (yielded ops a.tmps) then o.wp P a w K Q else X:=by
 rw[if_pos (by simp[Region.wanted,hg])];exact h
theorem qaq (x:Operand) (ho:o.op=.move x) (h:K (a.put o.dst (a.eval x)) w):o.wp P a w K Q:=by
 unfold Oper.wp execOp
 simp only[ho]
 exact h
theorem qki (x:Operand) (ho:o.op=.assign x) (h:K (a.put o.dst (a.eval x)) w):o.wp P a w K Q:=by
 unfold Oper.wp execOp
 simp only[ho]
 exact h
end
section
variable {P : Program}
theorem qfx (w:World) (g off:Nat) (t ty:TypeId) (cs A:Array Value) (fr:Nat × Nat) (d:TypeDesc) (hg:w.heap[g]? = some (.cells cs t fr)) (hA:∀ j,j<A.size->cs[off+j]? = A[j]?)
  (hu:P.underlying ty=some d) (hd:(match d with | .struct _ | .array _ _=>true | _=>false)=true) (hi:(P.info? ty).map (·.size)=some A.size):
  (loadVar ty ⟨g,off,none⟩).run P w=.ok (.agg A) w:=by
 have hl:(loadCells ⟨g,off,none⟩ A.toList.length).run P w=.ok A.toList.toArray w:=
  run_loadCells_list (P:=P) w ⟨g,off,none⟩ A.toList (fun j v hv=>by
   have hadd:(⟨g,off,none⟩:Addr).add j=⟨g,off+j,none⟩:=by unfold Addr.add;split <;> simp_all
   have hj:=(List.getElem?_eq_some_iff.1 hv).1
   rw[hadd,cell_of_row w g _ cs t fr hg,hA j (by simpa using hj)]
   simpa using hv)
 cases hq:P.info? ty with
 | none=>simp[hq]at hi
 | some i=>
  have hs:i.size=A.size:=by simpa[hq]using hi
  have hagg:(isAgg ty).run P w=.ok true w:=by
   unfold isAgg
   rw[Sem.run_bind,run_underlying hu w]
   cases d <;> simp_all
  simp only[Array.length_toList,Array.toArray_toList]at hl
  simp[loadVar,Sem.run_bind,hagg,sizeOf,typeInfo,hq,hs,hl]
theorem ybat {o:Oper} {a:Act} {w:World} {K:Act->World->Prop} {Q:Exit->Act->World->Prop} (ty:TypeId) (x:Operand) (ho:o.op=.load ty x)
  (g off:Nat) (hx:a.eval x=.pointer (some ⟨g,off,none⟩)) (t:TypeId) (cs A:Array Value) (fr:Nat × Nat) (d:TypeDesc) (hg:w.heap[g]? = some (.cells cs t fr)) (hA:∀ j,j<A.size->cs[off+j]? = A[j]?)
  (hu:P.underlying ty=some d) (hd:(match d with | .struct _ | .array _ _=>true | _=>false)=true) (hi:(P.info? ty).map (·.size)=some A.size)
  (h:K (a.put o.dst (.agg A)) w):o.wp P a w K Q:=by
 unfold Oper.wp execOp
 simp only[ho,hx,Instr.loadAt,Instr.sureAddr,Sem.run_bind,Sem.run_pure,Result.andThen_ok,qfx w g off t ty cs A fr d hg hA hu hd hi]
 exact h
theorem qar {ops:Array Oper} {rest:List Oper} {o:Oper} {a:Act} {w:World} {Q:Exit->Act->World->Prop} (hw:Region.wanted o (yielded ops a.tmps)=true) (ty:TypeId) (x:Operand) (ho:o.op=.load ty x)
  (g off:Nat) (hx:a.eval x=.pointer (some ⟨g,off,none⟩)) (t:TypeId) (cs A:Array Value) (fr:Nat × Nat) (d:TypeDesc) (hg:w.heap[g]? = some (.cells cs t fr)) (hA:∀ j,j<A.size->cs[off+j]? = A[j]?)
  (hu:P.underlying ty=some d) (hd:(match d with | .struct _ | .array _ _=>true | _=>false)=true) (hi:(P.info? ty).map (·.size)=some A.size)
  (h:wpList P ops Q rest (a.put o.dst (.agg A)) w):wpList P ops Q (o :: rest) a w:=
 qlq hw fun _ hK=>ybat ty x ho g off hx t cs A fr d hg hA hu hd hi (hK _ _ h)
theorem qow (w:World) (g off:Nat) (t ty:TypeId) (old A B:Array Value) (hg:w.heap[g]? = some (.cells old t (0,0))) (hi:(P.info? ty).map (·.size)=some A.size)
  (ho:off+A.size<=old.size) (h1:A.all (·.oneCell')=true) (hB:(old.toList.take off++A.toList++old.toList.drop (off+A.size)).toArray=B):
  (storeVar ty ⟨g,off,none⟩ (.agg A)).run P w=.ok () (w.setRow g B):=by
 have:=run_storeCells_at P g off t A.toList 0 old w hg (by simp;omega) (fun v hv=>(Array.all_eq_true_iff_forall_mem.1 h1) v (by simpa using hv))
 simp only[Nat.add_zero,Array.length_toList]at this
 rw[hB]at this
 cases hq:P.info? ty with
 | none=>simp[hq]at hi
 | some i=>
  have hs:A.size=i.size:=by simp[hq]at hi;omega
  simp[storeVar,sizeOf,typeInfo,hq,Value.cells,hs,this]
theorem qjf {o:Oper} {a:Act} {w:World} {K:Act->World->Prop} {Q:Exit->Act->World->Prop} (ty:TypeId) (x y:Operand) (ho:o.op=.store ty x y)
  (g off:Nat) (A:Array Value) (hx:a.eval x=.pointer (some ⟨g,off,none⟩)) (hy:a.eval y=.agg A)
  (t:TypeId) (old B:Array Value) (hg:w.heap[g]? = some (.cells old t (0,0))) (hi:(P.info? ty).map (·.size)=some A.size)
  (hold:off+A.size<=old.size) (h1:A.all (·.oneCell')=true) (hB:(old.toList.take off++A.toList++old.toList.drop (off+A.size)).toArray=B)
  (h:K (a.put o.dst undef) (w.setRow g B)):o.wp P a w K Q:=by
 unfold Oper.wp execOp
 simp only[ho,hx,hy,Instr.storeAt,Instr.sureAddr,Sem.run_bind,Sem.run_pure,Result.andThen_ok,qow w g off t ty old A B hg hi hold h1 hB]
 exact h
theorem qfl {ops:Array Oper} {rest:List Oper} {o:Oper} {a:Act} {w:World} {Q:Exit->Act->World->Prop} (hgd:o.guard=none) (ty:TypeId) (x y:Operand) (ho:o.op=.store ty x y)
  (g off:Nat) (A:Array Value) (hx:a.eval x=.pointer (some ⟨g,off,none⟩)) (hy:a.eval y=.agg A)
  (t:TypeId) (old B:Array Value) (hg:w.heap[g]? = some (.cells old t (0,0))) (hi:(P.info? ty).map (·.size)=some A.size)
  (hold:off+A.size<=old.size) (h1:A.all (·.oneCell')=true) (hB:(old.toList.take off++A.toList++old.toList.drop (off+A.size)).toArray=B)
  (h:wpList P ops Q rest (a.put o.dst undef) (w.setRow g B)):wpList P ops Q (o :: rest) a w:=
 wpList_plain hgd fun _ hK=>qjf ty x y ho g off A hx hy t old B hg hi hold h1 hB (hK _ _ h)
theorem qip {ops:Array Oper} {w:World} {Q:Act->Prop} {rest:List Oper} {o:Oper} {a:Act} (hw:Region.wanted o (yielded ops a.tmps)=true) (ty:TypeId) (x:Operand) (ho:o.op=.load ty x)
  (g off:Nat) (hx:a.eval x=.pointer (some ⟨g,off,none⟩)) (t:TypeId) (cs A:Array Value) (fr:Nat × Nat) (d:TypeDesc) (hg:w.heap[g]? = some (.cells cs t fr)) (hA:∀ j,j<A.size->cs[off+j]? = A[j]?)
  (hu:P.underlying ty=some d) (hd:(match d with | .struct _ | .array _ _=>true | _=>false)=true) (hi:(P.info? ty).map (·.size)=some A.size)
  (h:wpStill P ops w Q rest (a.put o.dst (.agg A))):wpStill P ops w Q (o :: rest) a:=by
 unfold wpStill
 rw[if_pos hw]
 unfold Oper.still execOp
 simp only[ho,hx,Instr.loadAt,Instr.sureAddr,Sem.run_bind,Sem.run_pure,Result.andThen_ok,qfx w g off t ty cs A fr d hg hA hu hd hi]
 exact⟨rfl,h⟩
theorem ybuf (A:Array Value):∀ j,j<A.size->A[0+j]? = A[j]? :=fun j _=>by rw[Nat.zero_add]
end
end Go.Proofs.YtpoglnpjadmbpaaGreatDoor
