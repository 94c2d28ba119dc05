import Derived.Test.YtpcedcnjofbgjaaGreatDoorKA0
import Derived.ProofKit
import Derived.Laws.Bits64b
import Derived.WalkKit
import Derived.Deep.WholeRow
import Derived.Orders
import Derived.Laws.CopyRow
import Derived.StillTailTactics
set_option maxHeartbeats 0
set_option linter.all false
set_option maxRecDepth 100000
namespace Go.Proofs.YtpcedcnjofbgjaaGreatDoor
open Go.ChangeShapes Go.WideShapes Go.ChangeAt Go.RowKit
abbrev Cd:=@Below.grown
abbrev MO:=@grownCap_ge
abbrev MQ:=@run_firstCells_some
abbrev My:=@run_convert_bytes_string
abbrev Nl:=@wpList_store_row
abbrev Nn:=@Sem.run_bind
abbrev nx:=@run_loadVar_row
abbrev rV:=@heap_setCell_other
abbrev rc:=@mem_ready
abbrev sJ:=@size_zeroCells
abbrev tQ:=@wpList_plain
abbrev tR:=@run_copy_row
abbrev tf:=@setCell_eq_setRow
abbrev tw:=@results_cell_row
abbrev uN:=@Oper.wp_mono
abbrev uV:=@run_loadCells_list
abbrev uW:=@heap_alloc_old
abbrev ub:=@World.ownsRow_made
abbrev ui:=@zero_of_info
abbrev vM:=@World.cell?_of_block
abbrev vP:=@Sem.run_pure
abbrev vU:=@World.cell?_setCell_other
abbrev vz:=@DataW.trod_int
abbrev wN:=@Below.heap_alloc
abbrev wP:=@run_underlying
abbrev wS:=@run_storeCells_at
abbrev wW:=@heap_alloc2_old
abbrev wh:=@heap_alloc2_new
abbrev xQ:=@cell_of_row
abbrev xR:=@World.cell?_alloc_lt
abbrev xW:=@Below.refl
abbrev yE:=@bodyPost_ret
abbrev yI:=@wpList_load_row
abbrev yL:=@World.ownsRow_nil
abbrev yM:=@Result.andThen_ok
abbrev yO:=@setRow_other
abbrev yX:=@info_parts
abbrev ya:=@setRow_heap
abbrev yj:=@Below.heap_setCell
abbrev yw:=@wpList_append_own
abbrev zM:=@IntWalk.i64_in
abbrev zO:=@heap_alloc_new
abbrev zT:=@heap_setCell_same
abbrev zy:=@block_lt_of_cell
theorem oU {H:Type} {enc:TypeId×Value->H} {P:Program} (k:laidOutB P=true) {W W':World} (l:Below W W W'):∀{ts} {vs} {ds} {ps},
 (∀t,t∈ts->P.readableRec t=true/\t<P.types.size)->(∀p,p∈ps->p.block<W.heap.size)->DataW.TrodAll enc P W 0 (λ_=>true) true ts vs ds ps->DataW.TrodAll enc P W' 0 (λb=>decide (b<W.heap.size)) true ts vs ds ps
 | [],[],[],_,_,_,h=>h
 | t::ts,v::vs,d::ds,ps,c,a,h=>by obtain⟨p,q,j,f,rfl⟩:=h;refine⟨p,q,Below.trod k (c t (by simp)).1 (c t (by simp)).2 j l λx e=>a x (by simp[e]),?_,rfl⟩;exact oU k l (λg i=>c g (by simp[i])) (λx e=>a x (by simp[e])) f
 | [],[],_::_,_,_,_,h=>by cases h
 | [],_::_,_,_,_,_,h=>by cases h
 | _::_,[],_,_,_,_,h=>by cases h
 | _::_,_::_,[],_,_,_,h=>by cases h
theorem qvi {H:Type} {enc:TypeId×Value->H} {P:Program} {f:Func} {s:ChangeSpec} {W W':World} {args:Array Value} {ds gs:List (DataW H)} {before:List MemPlace} (T)
 (u:laidOutB P=true) (v:f.params.toList.all (λt=>P.readableRec t&&decide (t<P.types.size))=true) (o:s.vars=[]) (m:f.resultTypes=#[T]) (w:P.underlying T=some .bool)
 (n:DataW.Whole enc P f.params.toList s.vars false W args.toList ds gs before) (l:s.fn H (ds++gs)={results:=[.lit (.bool true)],args:=ds}) (r:Below W W W'):
 s.post enc P f false true false false W args (.bool true) W':=by
 have a:∀p∈before,p.block<W.heap.size:=λp e=>n.lt p e;obtain⟨p,q,g,b,c,j,k⟩:=id n;rw[o]at b;obtain⟨rfl,rfl⟩:=trodVars_none b;simp only[yY]at c;subst c;refine⟨ds,[],before,[],before,[],n,?_,?_,?_,World.keptBut_mono (λx d=>⟨d,zw (zu d)⟩) (r.frame (·∈before)),λh=>by cases h⟩
 .rw[l,m];exact⟨[],[],⟨1,by simp[DataW.trod,Value.cells,w]⟩,rfl,rfl⟩
 .rw[l];refine oU u r (λt i=>?_) a g;have:=(xp.1 v) t i;simpa using this
 .rw[l,o];exact rfl
end Go.Proofs.YtpcedcnjofbgjaaGreatDoor
namespace Go.Proofs.YtpcedcnjofbgjaaGreatDoor
variable {Q:Exit->Act->World->Prop} {a:Act} {d h i len m n:Nat} {e t:TypeId} {k:IntKind} {o:Obj} {ops:Array Oper} {rest:List Oper} {s:Nat->Bool} {w:World} {xs ys:Array Value}
abbrev Wr:=Nat×List Int
abbrev Rb:=Nat×List Int×Bool
def mw (R:List Wr) (n:Nat):Option (List Int):=R.foldl (λo x=>if x.1=n then some x.2 else o) none
theorem PO (R) (x) (n):mw (R++[x]) n=if x.1=n then some x.2 else mw R n:=by unfold mw;rw[xf];rfl
def farN (h n:Nat):Nat:=(n+256-h)%256
def jv (R:List Wr) (h:Nat):List Wr:=(List.range 256).filterMap λi=>(mw R ((h+i)%256)).map λD=>((h+i)%256,D)
def Pm (R:List Wr) (h:Nat):Nat:=match (jv R h).getLast? with|some x=>x.1|none=>h
def emit (P:List Wr):List Rb:=P.map λx=>(x.1,x.2,false)
def barR : Rb:=(0,[],true)
def rE (acc:List Wr) (h:Nat):List Rb->List Rb
 | []=>emit (jv acc h)
 | (n,D,b)::l=>if b then emit (jv acc h)++barR::rE [] (Pm acc h) l else rE (acc++[(n,D)]) h l
def Ob (l:List Rb) (h:Nat):List Rb:=rE [] h l
theorem Z1 (h i) (a:h<256) (b:i<256):farN h ((h+i)%256)=i:=by unfold farN;omega
theorem J9 {a b:Nat} (c:h<256) (d:a<256) (f:b<256) (e:farN h a=farN h b):a=b:=by unfold farN at e;omega
theorem VL (h n):farN h n<256:=by unfold farN;omega
theorem Fa (h n) (a:h<256) (b:n<256):(h+farN h n)%256=n:=by unfold farN;omega
theorem ru (R) (h) (f:h<256) (x):x∈jv R h↔x.1<256/\mw R x.1=some x.2:=by
 unfold jv;rw[List.mem_filterMap];constructor
 .rintro ⟨i,e,a⟩;rw[Option.map_eq_some_iff]at a;obtain⟨D,d,rfl⟩:=a;exact⟨qf _ (by omega),d⟩
 .rintro ⟨c,b⟩;refine⟨farN h x.1,xy.2 (VL _ _),?_⟩;rw[Fa h x.1 f c,b];rfl
theorem QJ (R) (h) (i:h<256):(jv R h).Pairwise λa b=>farN h a.1<farN h b.1:=by unfold jv;rw[List.pairwise_filterMap];refine (List.pairwise_lt_range (n:=256)).imp_of_mem ?_;intro a b f g c x e y d;rw[Option.map_eq_some_iff]at e d;obtain⟨_,_,rfl⟩:=e;obtain⟨_,_,rfl⟩:=d;show farN h ((h+a)%256)<farN h ((h+b)%256);rw[Z1 h a i (xy.1 f),Z1 h b i (xy.1 g)];exact c
theorem Vb {A B:List Wr} (j:A.Pairwise λa b=>farN h a.1<farN h b.1) (hB:B.Pairwise λa b=>farN h a.1<farN h b.1) (k:∀x,x∈A↔x∈B):A=B:=by
 have c:∀{l:List Wr},(l.Pairwise λa b=>farN h a.1<farN h b.1)->l.Nodup:=λd=>d.imp λf e=>by subst e;omega
 refine List.Perm.eq_of_pairwise (λa b _ _ i g=>?_) j hB ((ll (c j) (c hB)).2 k);omega
theorem EO {O R:List Wr} (c:h<256) (d:O.Pairwise λa b=>farN h a.1<farN h b.1) (e:∀x,x∈O↔x.1<256/\mw R x.1=some x.2):O=jv R h:=
 Vb d (QJ R h c) λx=>(e x).trans (ru R h c x).symm
theorem pN (R) (n) (D) (h:mw R n=some D):(n,D)∈R:=by
 have b:∀(R:List Wr) (o),R.foldl (λo x=>if x.1=n then some x.2 else o) o=some D->o=some D\/(n,D)∈R:=by
  intro R
  induction R with
  | nil=>intro o h;exact zu h
  | cons x R c=>
   intro o h;rcases c _ h with a|a
   .dsimp only at a;split at a
    .rename_i e;injection a with a;exact zw (by rw[<-e,<-a];simp)
    .exact zu a
   .exact zw (xj _ a)
 rcases b R none h with h|h
 .cases h
 .exact h
theorem Q8 (R) (n):mw R n=none↔∀x∈R,x.1≠n:=by
 have a:∀(R:List Wr) (o),R.foldl (λo x=>if x.1=n then some x.2 else o) o=none↔o=none/\∀x∈R,x.1≠n:=by
  intro R
  induction R with
  | nil=>intro o;simp
  | cons x R b=>
   intro o;rw[ww,b];by_cases e:x.1=n
   .rw[ze e];simp[e]
   .rw[zb e];simp[e]
 unfold mw;rw[a R none];exact⟨λh=>h.2,λh=>⟨rfl,h⟩⟩
theorem kh {R:List Wr} (f:(R.map λx=>x.1).Nodup) {x:Wr} (g:x∈R):mw R x.1=some x.2:=by
 cases h:mw R x.1 with
 | none=>exact yi rfl ((Q8 R x.1).1 h x g)
 | some D=>
  have e:=pN R x.1 D h;have:(x.1,D)=x:=by
   rw[List.Nodup,wU]at f;obtain⟨i,d,a⟩:=wv e;obtain⟨j,c,b⟩:=wv g;have p:=wy.1 f;rcases Nat.lt_trichotomy i j with h|h|h
   .exact yi (by rw[a,b]) (p i j d c h)
   .subst h;rw[<-a,<-b]
   .exact yi (by rw[a,b]) (p j i c d h)
  rw[<-this]
theorem Qm (R) (h) (b:h<256):((jv R h).map λx=>x.1).Nodup:=by rw[List.Nodup,wU];exact (QJ R h b).imp λa e=>by rw[e]at a;omega
theorem Xb (R) (h n) (c:h<256) (d:n<256):mw (jv R h) n=mw R n:=by
 cases e:mw R n with
 | none=>
  rw[Q8];intro x b a;have:=((ru R h c x).1 b).2;rw[a,e]at this;cases this
 | some D=>exact kh (Qm R h c) (x:=(n,D)) ((ru R h c _).2 ⟨d,e⟩)
theorem Pi {A B:List Nat} (g:A.Nodup) (h:∀n∈A,n∈B):A.length<=B.length:=by
 induction A generalizing B with
 | nil=>exact yh _
 | cons a A d=>
  rw[vZ]at g;have b:=h a (by simp);have:=d (B:=B.erase a) g.2 λn c=>by rw[List.mem_erase_of_ne (λe=>g.1 (by rw[<-e];exact c))];exact h n (by simp[c])
  rw[List.length_erase_of_mem b]at this;have f:=MJ b;rw[yv];omega
theorem fY (R) (h) (b:h<256):Pm R h<256:=by
 unfold Pm;split
 .rename_i x a;exact ((ru R h b x).1 (List.mem_of_getLast? a)).1
 .exact b
theorem ry (acc P) (h):rE acc h (emit P)=emit (jv (acc++P) h):=by
 induction P generalizing acc with
 | nil=>rw[yY];rfl
 | cons x P a=>
  show (if false=true then _ else rE (acc++[(x.1,x.2)]) h (emit P))=_;rw[zb (by simp),a,zR];rfl
theorem Q6 (acc P) (h) (l:List Rb) (m) (D):rE acc h (emit P++(m,D,true)::l)=emit (jv (acc++P) h)++barR::rE [] (Pm (acc++P) h) l:=by
 induction P generalizing acc with
 | nil=>rw[yY];rfl
 | cons x P a=>
  show (if false=true then _ else rE (acc++[(x.1,x.2)]) h (emit P++(m,D,true)::l))=_;rw[zb (by simp),a,zR];rfl
theorem Wk (l):(∃P,l=emit P)\/∃P m D r,l=emit P++(m,D,true)::r/\r.length<l.length:=by
 induction l with
 | nil=>exact zu ⟨[],rfl⟩
 | cons x l a=>
  obtain⟨n,D,b⟩:=x;cases b with
  | true=>exact zw ⟨[],n,D,l,rfl,by simp⟩
  | false=>
   rcases a with⟨P,rfl⟩|⟨P,m,E,r,rfl,c⟩
   .exact zu ⟨(n,D)::P,rfl⟩
   .exact zw ⟨(n,D)::P,m,E,r,rfl,by simp at c |-;omega⟩
theorem Rs (R) (h) (e:h<256):(jv R h).length<=R.length:=by
 have b:=Qm R h e;have a:∀n∈(jv R h).map (λx=>x.1),n∈R.map λx=>x.1:=by intro n d;obtain⟨x,c,rfl⟩:=yd.1 d;exact yd.2 ⟨_,pN R x.1 x.2 ((ru R h e x).1 c).2,rfl⟩
 have:=Pi b a;simpa using this
theorem Q5 (l) (h) (i:h<256):(rE [] h l).length<=l.length:=by
 have b:∀(k) (l) (h),h<256->l.length<=k->(rE [] h l).length<=l.length:=by
  intro k
  induction k with
  | zero=>
   intro l h i c;have:l=[]:=(by cases l with|nil=>rfl|cons a l=>simp at c);subst this;have:=Rs [] h i;simpa[rE,emit]using this
  | succ k d=>
   intro l h i c;rcases Wk l with⟨P,rfl⟩|⟨P,m,D,r,rfl,g⟩
   .rw[ry,yJ];have:=Rs P h i;simpa[emit]using this
   .rw[Q6,yJ];have f:=Rs P h i;have e:=d r _ (fY P h i) (by omega);simp[emit]at *
    omega
 exact b l.length l h i zL
open Go.RowKit
def PD (n c:Int):Int:=bits .xor .u32 n (c%4294967296)*16777619%4294967296
theorem l9 (n c):0<=PD n c/\PD n c<4294967296:=by unfold PD;omega
def sumB (n:Int) (b:List Int):Int:=b.foldl PD n
theorem Ku (n) (b) (c):sumB n (b++[c])=PD (sumB n b) c:=by unfold sumB;rw[xf];rfl
theorem nW {n:Int} (h:0<=n/\n<4294967296) (b):0<=sumB n b/\sumB n b<4294967296:=by
 unfold sumB
 induction b generalizing n with
 | nil=>exact h
 | cons c b a=>exact a (l9 n c)
def sumW (l:List Wr):Int:=l.foldl (λn x=>sumB (sumB n [x.1]) x.2) 2166136261
theorem ic (l) (x):sumW (l++[x])=sumB (sumB (sumW l) [x.1]) x.2:=by unfold sumW;rw[xf];rfl
theorem Es (l):0<=sumW l/\sumW l<4294967296:=by
 have a:∀k,k<=l.length->0<=sumW (l.take k)/\sumW (l.take k)<4294967296:=by
  intro k
  induction k with
  | zero=>intro _;show (0:Int)<=2166136261/\(2166136261:Int)<4294967296;omega
  | succ k b=>
   intro c;rw[<-zU (show k<l.length by omega),ic];exact nW (nW (b (by omega)) _) _
 have:=a l.length zL
 rwa [xN]at this
def uz (n:Int):List Int:=[n%256,n / 256%256,n / 65536%256,n / 16777216]
def rdB (a b c d:Int):Int:=bits .or .u32 (bits .or .u32 (bits .or .u32 (a%4294967296) (b%4294967296*256%4294967296)) (c%4294967296*65536%4294967296)) (d%4294967296*16777216%4294967296)
theorem ip (n) (b:0<=n) (c:n<4294967296):∀x∈uz n,0<=x/\x<=255:=by intro x a;unfold uz at a;simp at a;omega
def b2 (b:Bool) (k:Nat):Nat:=if b then k else 0
def jw (f:Nat->Bool):Nat:=b2 (f 0) 1+b2 (f 1) 2+b2 (f 2) 4+b2 (f 3) 8+b2 (f 4) 16+b2 (f 5) 32+b2 (f 6) 64+b2 (f 7) 128
def sg (s:Nat->Bool) (i:Nat):Nat:=jw λj=>s (8*i+j)
def enc (s:Nat->Bool):Array Value:=Array.ofFn (n:=32) λi=>Value.int .u8 (sg s i.val)
theorem tO (s):(enc s).size=32:=by simp[enc]
theorem Nx (s) (i) (h:i<32):(enc s)[i]?=some (.int .u8 (sg s i)):=by simp[enc,h]
theorem Zx (s):(enc s).all (·.oneCell')=true:=by rw[xJ];intro v a;simp only[enc,Array.mem_ofFn]at a;obtain⟨i,rfl⟩:=a;rfl
theorem Td (b) (k):b2 b k<=k:=by unfold b2;split<;>omega
theorem kI (f):jw f<256:=by unfold jw;have h:=Td (f 0) 1;have d:=Td (f 1) 2;have b:=Td (f 2) 4;have i:=Td (f 3) 8;have c:=Td (f 4) 16;have g:=Td (f 5) 32;have a:=Td (f 6) 64;have e:=Td (f 7) 128;omega
theorem OP (s) (i):sg s i<256:=kI _
theorem rk {f g:Nat->Bool} (h:∀j,j<8->f j=g j):jw f=jw g:=by unfold jw;rw[h 0 (by omega),h 1 (by omega),h 2 (by omega),h 3 (by omega),h 4 (by omega),h 5 (by omega),h 6 (by omega),h 7 (by omega)]
def by8 (b0 b1 b2' b3 b4 b5 b6 b7:Bool):Nat:=b2 b0 1+b2 b1 2+b2 b2' 4+b2 b3 8+b2 b4 16+b2 b5 32+b2 b6 64+b2 b7 128
theorem KT (f):jw f=by8 (f 0) (f 1) (f 2) (f 3) (f 4) (f 5) (f 6) (f 7):=rfl
theorem V1: ∀(k:Fin 8) (a b c d e f g h),(by8 a b c d e f g h).testBit k.val=[a,b,c,d,e,f,g,h].getD k.val false:=by decide +kernel
theorem FB: ∀x:Fin 256,by8 (x.val.testBit 0) (x.val.testBit 1) (x.val.testBit 2) (x.val.testBit 3) (x.val.testBit 4) (x.val.testBit 5) (x.val.testBit 6) (x.val.testBit 7)=x.val:=by decide +kernel
theorem sD (f) (k) (a:k<8):(jw f).testBit k=f k:=by
 have:=V1 ⟨k,a⟩ (f 0) (f 1) (f 2) (f 3) (f 4) (f 5) (f 6) (f 7);rw[KT,this]
 match k,a with
 | 0,_=>rfl
 | 1,_=>rfl
 | 2,_=>rfl
 | 3,_=>rfl
 | 4,_=>rfl
 | 5,_=>rfl
 | 6,_=>rfl
 | 7,_=>rfl
 | k+8,h=>omega
theorem gu (x k) (a:x<256) (b:8<=k):x.testBit k=false:=
 Nat.testBit_lt_two_pow (zr a (by have:2 ^ 8<=2 ^ k:=Nat.pow_le_pow_right (by omega) b;simpa using this))
theorem WK (x) (f) (b:x<256) (h:∀k,k<8->x.testBit k=f k):x=jw f:=by
 apply Nat.eq_of_testBit_eq;intro k;by_cases a:k<8
 .rw[h k a,sD f k a]
 .rw[gu x k b (by omega),gu _ k (kI f) (by omega)]
theorem FK (a b:Nat) (c:a<256) (d:b<256):bits .or .u8 a b=((a ||| b)):=
 (bits_nat .u8 8 (by decide) wraps_u8 a b c d).2
theorem Yp (a b:Nat) (c:a<256) (d:b<256):bits .and .u8 a b=((a &&& b)):=
 (bits_nat .u8 8 (by decide) wraps_u8 a b c d).1
theorem QP (f g):bits .or .u8 (jw f) (jw g)=(jw (λj=>f j||g j)):=by
 rw[FK _ _ (kI f) (kI g)]
 congr 1
 exact WK _ _ (Nat.or_lt_two_pow (n:=8) (kI f) (kI g)) λk a=>by rw[Nat.testBit_or,sD f k a,sD g k a]
theorem QA (f g):bits .andNot .u8 (jw f) (jw g)=(jw (λj=>f j&&!g j)):=by
 have c:=kI f;have d:=kI g;have e:bits .andNot .u8 (jw f) (jw g)=((BitVec.ofNat 8 (jw f) &&& ~~~BitVec.ofNat 8 (jw g)).toNat):=by
  unfold bits;simp only[sR];rw[wraps_u8 _ (Int.natCast_nonneg _)]
  .rfl
  .have:=(BitVec.ofNat IntKind.u8.bits (jw f) &&& ~~~BitVec.ofNat IntKind.u8.bits (jw g)).isLt;have b:IntKind.u8.bits=8:=rfl;simp only[b]at this |-;omega
 rw[e]
 congr 1
 refine WK _ _ (BitVec.isLt _) λk a=>?_;have:(BitVec.ofNat 8 (jw f) &&& ~~~BitVec.ofNat 8 (jw g)).toNat.testBit k=(BitVec.ofNat 8 (jw f) &&& ~~~BitVec.ofNat 8 (jw g)).getLsbD k:=rfl;rw[this,BitVec.getLsbD_and,BitVec.getLsbD_not,BitVec.getLsbD_ofNat,BitVec.getLsbD_ofNat,sD f k a,sD g k a];simp[a]
theorem Gl: ∀k:Fin 8,2 ^ k.val%256=jw (λj=>decide (j=k.val)):=by decide +kernel
theorem Us (k) (a:k<8):((2:Int) ^ k%256)=(jw (λj=>decide (j=k))):=by rw[<-Gl ⟨k,a⟩];simp
theorem DU (f) (k) (d:k<8):bits .and .u8 (((jw f)) / 2 ^ k) 1=if f k then 1 else 0:=by
 have b:=kI f;have e:((jw f)) / 2 ^ k=((jw f >>> k):Int):=by rw[uZ];simp
 have c:jw f >>> k<256:=by rw[uZ];exact Nat.lt_of_le_of_lt (Nat.div_le_self _ _) b
 rw[e,show (1:Int)=((1:Nat):Int) from rfl,Yp _ 1 c (by omega)];have:jw f >>> k &&& 1=if f k then 1 else 0:=by
  have a:=sD f k d;rw[Nat.testBit_eq_decide_div_mod_eq]at a;rw[Nat.and_one_is_mod,uZ,<-a];by_cases h:jw f / 2 ^ k%2=1
  .simp[h]
  .have:jw f / 2 ^ k%2=0:=(by omega);simp[this]
 rw[this];split<;>rfl
theorem XQ (x) (h:x<256):jw (λj=>x.testBit j)=x:=FB ⟨x,h⟩
def ins (s:Nat->Bool) (n:Nat):Nat->Bool:=λm=>s m||decide (m=n)
def del (s:Nat->Bool) (n:Nat):Nat->Bool:=λm=>s m&&!decide (m=n)
def join (s t:Nat->Bool):Nat->Bool:=λm=>s m||t m
theorem qI {t:Nat->Bool} (h:∀j,j<8->s (8*i+j)=t (8*i+j)):sg s i=sg t i:=rk h
theorem lL (s t) (i) (f:i<32) (g:∀m,m / 8≠i->s m=t m):(enc s).setIfInBounds i (.int .u8 (sg t i))=enc t:=by
 apply yV;intro k;rw[yH];by_cases a:k<32
 .rw[Nx t k a];by_cases e:i=k
  .subst e;simp[tO,f]
  .rw[zb e,Nx s k a,qI λj d=>g _ (by omega)]
 .have c:(enc s)[k]?=none:=by simp[tO];omega
  have b:(enc t)[k]?=none:=by simp[tO];omega
  rw[c,b];split<;>simp[tO]<;>omega
theorem LC (s) (n) (c:n<256):(enc s).setIfInBounds (n / 8) (.int .u8 (bits .or .u8 (sg s (n / 8)) (2 ^ (n%8)%256)))=enc (ins s n):=by
 rw[Us _ (by omega)];unfold sg;rw[QP];have e:jw (λj=>s (8*(n / 8)+j)||decide (j=n%8))=sg (ins s n) (n / 8):=rk λj b=>by
  unfold ins
  congr 2
  rw[eq_iff_iff];omega
 rw[e];exact lL s (ins s n) (n / 8) (by omega) λm a=>by unfold ins;rw[zJ (λh:m=n=>a (by rw[h])),Bool.or_false]
theorem Ii (s) (n) (c:n<256):(enc s).setIfInBounds (n / 8) (.int .u8 (bits .andNot .u8 (sg s (n / 8)) (2 ^ (n%8)%256)))=enc (del s n):=by
 rw[Us _ (by omega)];unfold sg;rw[QA];have e:jw (λj=>s (8*(n / 8)+j)&&!decide (j=n%8))=sg (del s n) (n / 8):=rk λj b=>by
  unfold del
  congr 3
  rw[eq_iff_iff];omega
 rw[e];exact lL s (del s n) (n / 8) (by omega) λm a=>by unfold del;rw[zJ (λh:m=n=>a (by rw[h])),Bool.not_false,Bool.and_true]
theorem OK {t:Nat->Bool} (h:∀m,m<256->s m=t m):enc s=enc t:=by
 apply yV;intro k;by_cases a:k<32
 .rw[Nx s k a,Nx t k a,qI λj d=>h _ (by omega)]
 .have c:(enc s)[k]?=none:=by simp[tO];omega
  have b:(enc t)[k]?=none:=by simp[tO];omega
  rw[c,b]
def Qv (s r:Nat->Bool) (k:Nat):Nat->Bool:=λm=>if m<8*k then r m else s m
theorem Ig (s r) (k) (c:k<32):(enc (Qv s r k)).setIfInBounds k (.int .u8 (sg r k))=enc (Qv s r (k+1)):=by
 have e:sg r k=sg (Qv s r (k+1)) k:=qI λj b=>by unfold Qv;rw[ze (by omega)]
 rw[e];refine lL _ _ k c λm a=>?_;unfold Qv;by_cases h:m<8*k
 .rw[ze h,ze (by omega)]
 .rw[zb h,zb (by omega)]
theorem nO (s r) (k):sg (Qv s r k) k=sg s k:=qI λj a=>by unfold Qv;rw[zb (by omega)]
theorem Fe (s r):enc (Qv s r 0)=enc s:=OK λm _=>by unfold Qv;rw[zb (by omega)]
theorem Z7 (s r):enc (Qv s r 32)=enc r:=OK λm a=>by unfold Qv;rw[ze (by omega)]
theorem VZ (s t) (k):bits .or .u8 (sg s k) (sg t k)=(sg (join s t) k):=QP _ _
theorem DA: ∀k:Fin 8,(255:Nat).testBit k.val=true:=by decide
theorem V0 (h:sg s i=255) (j) (a:j<8):s (8*i+j)=true:=by have:=sD (λj=>s (8*i+j)) j a;rw[show jw (λj=>s (8*i+j))=255 from h]at this;rw[<-this];exact DA ⟨j,a⟩
variable {P : Program}
theorem QF {t:TypeId} {d:TypeDesc} (h:P.underlying t=some d) (w):(isAgg t).run P w=.ok (match d with|.struct _|.array _ _=>true|_=>false) w:=by unfold isAgg;rw[Nn,wP h w];cases d<;>simp
theorem PX (h:(P.info? t).map (·.size)=some n) (w):(sizeOf t).run P w=.ok n w:=by
 cases a:P.info? t with
 | none=>simp[a]at h
 | some i=>simp[a]at h;simp[sizeOf,typeInfo,a,h]
theorem Rl (h:P.underlying t=some (.int k)) (cs) (off) (v) (a:cs[off]?=some v) (w):(part t cs off).run P w=.ok v w:=by unfold part;rw[Nn,QF h w];simp[a]
theorem lS {t:TypeId} {d:TypeDesc} (h:P.underlying t=some d) (hd:(match d with|.struct _|.array _ _=>true|_=>false)=true) {n:Nat} (hn:(P.info? t).map (·.size)=some n) (cs) (off) (w):
 (part t cs off).run P w=.ok (.agg (cs.extract off (off+n))) w:=by
 unfold part;rw[Nn,QF h w,hd];simp[PX hn w]
theorem jr (t e) (n) (ke) (cs) (k) (i:Int) (h:P.underlying t=some (.array n e)) (a:P.underlying e=some (.int ke)) (b:(P.info? e).map (·.size)=some 1)
 (c:0<=i) (d:i<n) (v) (f:cs[i.toNat]?=some v) (w):(Instr.index t (.agg cs) (.int k i)).run P w=.ok v w:=by
 simp only[Instr.index,asIntOf,Nn,vP,yM,wP h];rw[ze ⟨c,d⟩];simp only[Nn,PX b,yM,vB];exact Rl a cs _ v f w
theorem uo {o:Oper} (c:o.guard=none) (ty) (d:o.op=.alloc ty)
 (Z) (e:∀w,(zeroValue ty).run P w=.ok (.agg Z) w)
 (h:wpList P ops Q rest (a.put o.dst (w.heap.size,())) (w.alloc (.cells Z ty))):wpList P ops Q (o::rest) a w:=
 tQ c λ_ b=>by unfold Oper.wp execOp;simp only[d,Instr.alloc,Nn,e,yM,newVar,Value.cells];exact b _ _ h
theorem PA {o:Oper} (c:Region.wanted o (yielded ops a.tmps)=true)
 (h:∀K,(∀a w,wpList P ops Q rest a w->K a w)->o.wp P a w K Q):wpList P ops Q (o::rest) a w:=
 wpList_step λK b=>by rw[ze c];exact h K b
theorem ZO {ops:Array Oper} {rest:List Oper} {o:Oper} {a:Act} {w:World} {Q:Exit->Act->World->Prop} (hw:Region.wanted o (yielded ops a.tmps)=true) (ty) (x) (ho:o.op=.load ty x)
 (g) (hx:a.eval x=.pointer (some ⟨g,0,none⟩)) (t) (cs) (fr) (d) (hg:w.heap[g]?=some (.cells cs t fr))
 (hu:P.underlying ty=some d) (hd:(match d with|.struct _|.array _ _=>true|_=>false)=true) (hi:(P.info? ty).map (·.size)=some cs.size)
 (h:wpList P ops Q rest (a.put o.dst (.agg cs)) w):wpList P ops Q (o::rest) a w:=
 PA hw λ_ b=>wp_load_row ty x ho g hx t cs fr d hg hu hd hi (b _ _ h)
theorem xV {w':World} (h:Below w w w') (a:w.heap[i]?=some o):w'.heap[i]?=some o:=
 (h.block _ (wb.1 a).1).trans a
theorem un (a:w.heap[i]?=some o) (x):(w.alloc x).heap[i]?=some o:=
 (wN w x i (wb.1 a).1).trans a
theorem rF (a:w.heap[i]?=some o) (g) (cs) (b:i≠g):(w.setRow g cs).heap[i]?=some o:=
 (yO w g i cs b).trans a
theorem xB (a:w.heap[i]?=some o):i<w.heap.size:=(wb.1 a).1
theorem Below.step {w1 w2:World} (h:Below w w w1) (k:Below w1 w1 w2):Below w w w2:=h.trans (k.mono h.size)
abbrev zi:=@Below.step
def NK (xs ys:Array Value) (off n:Nat):Prop:=∀j,j<n->∃k a b,xs[off+j]?=some (.int k a)/\ys[off+j]?=some (.int k b)
def uf (xs ys:Array Value) (off:Nat):Nat->Bool
 | 0=>true
 | n+1=>uf xs ys off n&&(match xs[off+n]?,ys[off+n]? with|some (.int _ a),some (.int _ b)=>a==b|_,_=>false)
theorem P5 (xs ys) (off m):∀n,uf xs ys off (m+n)=(uf xs ys off m&&uf xs ys (off+m) n)
 | 0=>by simp[uf]
 | n+1=>by rw[<-yp];simp only[uf];rw[P5 xs ys off m n,Bool.and_assoc,yp]
theorem Rr (xs ys) (off m o):∀n,o+n<=m->uf (xs.extract off (off+m)) (ys.extract off (off+m)) o n=uf xs ys (off+o) n
 | 0,_=>rfl
 | n+1,h=>by
  simp only[uf];rw[Rr xs ys off m o n (by omega)];have e:∀a:Array Value,(a.extract off (off+m))[o+n]?=a[off+o+n]? :=λa=>by
   rw[Array.getElem?_extract];by_cases b:o+n<min (off+m) a.size-off
   .rw[ze b,yp]
   .rw[zb b,eq_comm,zY (by omega)]
  rw[e xs,e ys]
theorem NK.extract {off o:Nat} (h:NK xs ys (off+o) n) (p:o+n<=m):NK (xs.extract off (off+m)) (ys.extract off (off+m)) o n:=λj f=>by
 obtain⟨k,a,b,i,g⟩:=h j f;have e:∀(c:Array Value) v,c[off+o+j]?=some v->(c.extract off (off+m))[o+j]?=some v:=λc v d=>by have l:=(wb.1 d).1;rw[Array.getElem?_extract,ze (by omega),<-yp];exact d
 exact⟨k,a,b,e xs _ i,e ys _ g⟩
def Zu (P:Program) (d:Nat) (t:TypeId) (n:Nat):Prop:=
 ∀(w) (xs ys) (off),NK xs ys off n ->
  (do let a <-part t xs off;let b <-part t ys off;Op.equalIn d t a b).run P w=.ok (uf xs ys off n) w
theorem Zc (h:P.underlying t=some (.int k)):Zu P (d+1) t 1:=λw i g c j=>by obtain⟨l,a,b,f,e⟩:=j 0 (by omega);simp only[va]at f e;simp only[Nn,Rl h i c _ f w,Rl h g c _ e w,yM];rw[run_equalIn_int w d t l k a b h];simp[uf,f,e]
theorem K6 {d:Nat} {e:TypeId} {n:Nat} (q:Zu P d e n) (xs ys):∀(l s) (w),NK xs ys (s*n) (l*n) ->
 (forIn (List.range' s l) ((none,()):Option Bool×PUnit) λi _=>(do
  let a <-part e xs (i*n)
  let b <-part e ys (i*n)
  let r <-Op.equalIn d e a b
  if (!r)=true then pure (ForInStep.done (some false,())) else pure (ForInStep.yield (none,())))).run P w
  = .ok (if uf xs ys (s*n) (l*n) then (none,()) else (some false,())) w
 | 0,s,w,_=>by simp[uf]
 | l+1,s,w,h=>by
  have c:(l+1)*n=n+l*n:=by rw[sO,Le,MZ]
  rw[List.range'_succ,List.forIn_cons];have p:=q w xs ys (s*n) (λj m=>h j (by rw[c];omega));have g:(do let a <-part e xs (s*n);let b <-part e ys (s*n);let r <-Op.equalIn d e a b;if (!r)=true then pure (ForInStep.done (some false,())) else pure (ForInStep.yield (none,())):Sem (ForInStep (Option Bool×PUnit))).run P w
   = ((do let a <-part e xs (s*n);let b <-part e ys (s*n);Op.equalIn d e a b).run P w).andThen λr o=>((if (!r)=true then pure (ForInStep.done (some false,())) else pure (ForInStep.yield (none,())):Sem (ForInStep (Option Bool×PUnit)))).run P o:=by
   simp only[Nn];cases (part e xs (s*n)).run P w<;>simp[Result.andThen];rename_i a k;cases (part e ys (s*n)).run P k<;>simp
  rw[Nn,g,p];simp only[yM];rw[c,P5];by_cases f:uf xs ys (s*n) n=true
  .simp only[f,Bool.not_true,Nz,mY,vP,yM,Nq];have:=K6 q xs ys l (s+1) w (λj m=>by have:=h (n+j) (by rw[c];omega);rw[sO,Le,yp];exact this);rw[sO,Le]at this;exact this
  .simp only[Nr]at f;simp only[f,Bool.not_false,Mt,vP,yM,Bool.false_and,Nz,mY]
theorem Ca (h:P.underlying t=some (.array len e)) (b:(P.info? e).map (·.size)=some n) (c:Zu P d e n) (xs ys) (w)
 (f:NK xs ys 0 (len*n)):(Op.equalIn (d+1) t (.agg xs) (.agg ys)).run P w=.ok (uf xs ys 0 (len*n)) w:=by
 simp only[Op.equalIn,Nn,wP h,yM,PX b];rw[Std.Legacy.Range.forIn_eq_forIn_range'];have:=K6 c xs ys len 0 w (by simpa using f);simp only[Std.Legacy.Range.size,Nat.sub_zero,qg,Nat.div_one];simp only[uO]at this;rw[this];by_cases a:uf xs ys 0 (len*n)=true
 .simp[a]
 .simp only[Nr]at a;simp[a]
theorem Pw (h:P.underlying t=some (.array len e)) (g:(P.info? e).map (·.size)=some n) (i:(P.info? t).map (·.size)=some (len*n)) (j:Zu P d e n):Zu P (d+1) t (len*n):=λw f c a b=>by simp only[Nn,lS h rfl i,yM];rw[Ca h g j _ _ w (NK.extract (o:=0) (by simpa using b) (by omega)),Rr _ _ _ _ _ _ (by omega)];rfl
theorem Qc {f g:Field} (h : P.underlying t = some (.struct #[f, g])) (H : P.stoodInHeld t = false) (I : f.name ≠ "_") (J : g.name ≠ "_")
 (C:f.offset=0) (D:g.offset=n) (E:Zu P d f.type n) (F:Zu P d g.type m) (xs ys) (w) (G:NK xs ys 0 (n+m)):
 (Op.equalIn (d+1) t (.agg xs) (.agg ys)).run P w=.ok (uf xs ys 0 (n+m)) w:=by
 have i:P.fieldsOf t=#[f,g]:=by simp[Program.fieldsOf,h]
 rw[run_equalIn_struct w d t xs ys (by rw[i];exact h) H,i];have e:=E w xs ys 0 (λj y=>G j (by omega));have c:=F w xs ys n (λj y=>by have:=G (n+j) (by omega);simpa using this);rw[P5];simp only[yF];simp only[Nn]at e c;simp only[Op.eqFields,I,J,C,D,ne_eq,not_false_eq_true,Mt,Nn];cases u:(part f.type xs 0).run P w with
 | halt x q=>rw[u]at e;simp[Result.andThen]at e
 | ok a q=>
  rw[u]at e;simp only[yM]at e |-;cases s:(part f.type ys 0).run P q with
  | halt x z=>rw[s]at e;simp[Result.andThen]at e
  | ok b z=>
   rw[s]at e;simp only[yM]at e |-;rw[e];simp only[yM];by_cases o:uf xs ys 0 n=true
   .simp only[o,Bool.not_true,Nz,mY,Nq];cases l:(part g.type xs n).run P w with
    | halt x r=>rw[l]at c;simp[Result.andThen]at c
    | ok B r=>
     rw[l]at c;simp only[yM,Nn]at c |-;cases p:(part g.type ys n).run P r with
     | halt x v=>rw[p]at c;simp[Result.andThen]at c
     | ok A v=>
      rw[p]at c;simp only[yM]at c;rw[l];simp only[yM];rw[p];simp only[yM];rw[c];simp only[yM];by_cases k:uf xs ys n m=true
      .simp[k]
      .simp only[Nr]at k;simp[k]
   .simp only[Nr]at o;simp[o]
theorem Pc {xs ys:Array Value}:∀{n},NK xs ys 0 n->(uf xs ys 0 n=true↔∀j,j<n->xs[j]?=ys[j]?)
 | 0,_=>by simp[uf]
 | n+1,h=>by
  have i:=Pc (n:=n) (λj g=>h j (by omega));obtain⟨k,a,b,d,c⟩:=h n (by omega);simp only[yF]at d c;simp only[uf,yS,yF,d,c,i,wX];constructor
  .rintro ⟨f,rfl⟩ j g;by_cases e:j=n
   .subst e;rw[d,c]
   .exact f j (by omega)
  .intro f;refine⟨λj g=>f j (by omega),?_⟩;have:=f n (by omega);rw[d,c]at this;simpa using this
theorem lR (c:xs.size=n) (d:ys.size=n) (b:NK xs ys 0 n):uf xs ys 0 n=true↔xs=ys:=by
 rw[Pc b];constructor
 .intro h;apply yV;intro j;by_cases a:j<n
  .exact h j a
  .rw[zY (by omega),zY (by omega)]
 .rintro rfl j _;rfl
end Go.Proofs.YtpcedcnjofbgjaaGreatDoor
namespace Go.Proofs.YtpcedcnjofbgjaaGreatDoor
open Go.RowKit
variable {D:Nat->Bool} {Q:Exit->Act->World->Prop} {a:Act} {base i j k n size:Nat} {e:TypeId} {o:Oper} {ops:Array Oper} {p:Int} {r:List (Int×Int)} {v:Value} {w w':World} {x:Int×Int} {xs:List Value}
def uq (w:World) (v:Value) (k n:Nat) (xs:List Value):Prop:=
 xs.length=n*k/\((n=0/\∃a cap,v=.slice a 0 cap)\/∃g off cap,v=.slice (some ⟨g,off,none⟩) n cap/\∀(j) (x),xs[j]?=some x->w.cell? ⟨g,off+j,none⟩=some x)
def ints (l:List Int):List Value:=l.map λn=>Value.int .i64 n
def tP (w:World) (v:Value) (l:List Int):Prop:=uq w v 1 l.length (ints l)
theorem uq.below (h:uq w v k n xs) (l:Below w w w'):uq w' v k n xs:=by obtain⟨i,f⟩:=h;refine⟨i,f.imp id ?_⟩;rintro ⟨g,a,b,e,c⟩;exact⟨g,a,b,e,λj x d=>(l.cell (zy (c j x d))).trans (c j x d)⟩
theorem uq.of_owns (h:w.ownsRow base e k v n xs):uq w v k n xs:=by
 obtain⟨o,l⟩:=h;refine⟨o,l.imp (λ⟨a,b⟩=>⟨b,none,0,a⟩) ?_⟩;rintro ⟨g,d,f,i,_,m,_,_,_,p⟩;refine⟨g,0,d,i,λj x c=>?_⟩;rw[yF,zC m];rw[<-p,zI]at c;split at c
 .simpa using c
 .cases c
theorem pQ (l) (j) (a:j<l.length):(ints l)[j]?=some (.int .i64 (l[j])):=by simp[ints,a]
def badP (p:Int):Bool:=decide (p<0)||decide (256<=p)
def mT (l:List Int):Int:=if 8<l.length then 2 else if l.any badP then 1 else 0
def Qx (x:Int×Int) (p:Int):Bool:=if x.1=0 then p==0 else p==x.1+x.2
def og (out:List (Int×Int)) (p:Int):List (Int×Int):=
 match out with
 | []=>[(p,1)]
 | x::r=>if Qx x p then (x.1,x.2+1)::r else (p,1)::x::r
def ofR (l:List Int):List (Int×Int):=l.foldl og []
def ofE (l:List Int):List (Int×Int):=(ofR l).reverse
def qP (l:List (Int×Int)):List Value:=l.flatMap λx=>[.int .i64 x.1,.int .i64 x.2]
theorem rG (l):(qP l).length=l.length*2:=by
 induction l with
 | nil=>rfl
 | cons x l a=>simp only[qP,Nm,zl,yv,xC]at *;omega
theorem uE (a b):qP (a++b)=qP a++qP b:=by simp[qP]
theorem DZ (r) (x):(qP (r++[x]))[r.length*2]?=some (.int .i64 x.1)/\(qP (r++[x]))[r.length*2+1]?=some (.int .i64 x.2):=by
 rw[uE];have h:=rG r;constructor
 .rw[zx (by omega),show r.length*2-(qP r).length=0 by omega];rfl
 .rw[zx (by omega),show r.length*2+1-(qP r).length=1 by omega];rfl
theorem Oj (r) (a b c):(qP (r++[(a,b)])).set (r.length*2+1) (.int .i64 c)=qP (r++[(a,c)]):=by rw[uE,uE];have h:=rG r;rw[vh _ _ (by omega),show r.length*2+1-(qP r).length=1 by omega];rfl
theorem LR (p):og [] p=[(p,1)]:=rfl
theorem lO (h:Qx x p=true):og (x::r) p=(x.1,x.2+1)::r:=by simp[og,h]
theorem X5 (h:Qx x p=false):og (x::r) p=(p,1)::x::r:=by simp[og,h]
theorem Ru (w:World) (c) (t) (j) (u) (h:c.toList[j]?=some u):(w.alloc (.cells c t)).cell? ((⟨w.heap.size,0,none⟩:Addr).add j)=some u:=by
 have a:(⟨w.heap.size,0,none⟩:Addr).add j=⟨w.heap.size,j,none⟩:=by unfold Addr.add;split<;>simp_all
 rw[a,xQ _ _ j c t (0,0) (zO w _)];simpa using h
theorem tt (h:w.ownsRow base e size v n xs) (k:Below w w w'):w'.ownsRow base e size v n xs:=by
 obtain⟨i,b⟩:=h;refine⟨i,?_⟩;rcases b with b|⟨g,c,a,d,j,f,r⟩
 .exact zu b
 .exact zw ⟨g,c,a,d,j,xV k f,r⟩
theorem rU (h:w.ownsRow base e size v n xs):
 ∃q cap,v=.slice q n cap/\(0<n->∃g,q=some ⟨g,0,none⟩/\base<=g/\∀(j) (x),xs[j]?=some x->w.cell? ⟨g,j,none⟩=some x):=by
 obtain⟨k,⟨rfl,c⟩|⟨g,cap,b,rfl,i,d,_,_,_,f⟩⟩:=h
 .exact⟨none,0,by rw[c],λh=>by omega⟩
 .refine⟨_,cap,rfl,λ_=>⟨g,rfl,i,λj x a=>?_⟩⟩;rw[zC d];rw[<-f,zI]at a;split at a
  .simpa using a
  .cases a
theorem Un (l) (k) (hk):(qP l)[k*2]?=some (.int .i64 l[k].1)/\(qP l)[k*2+1]?=some (.int .i64 l[k].2):=by
 induction l generalizing k with
 | nil=>simp at hk
 | cons x l b=>
  cases k with
  | zero=>simp[qP]
  | succ k=>
   have:=b k (by simpa using hk);have a:(k+1)*2=k*2+1+1:=(by omega);rw[a];simp only[qP,Nm,tD,yJ,zh,List.getElem_cons_succ]at *
   exact this
def tu (ns:List Int):ByteArray:=ns.foldl (λr n=>r.push (UInt8.ofNat n.toNat)) ByteArray.empty
theorem sC {P:Program} (w) (src dst e) (g off cap n) (ns) (c:ns.length=n) (d:P.underlying src=some (.slice e)) (f:P.underlying e=some (.int .u8)) (h:P.underlying dst=some .string)
 (i:∀(j) (v),(ns.map (Value.int .u8))[j]?=some v->w.cell? ⟨g,off+j,none⟩=some v):
 (convert src dst (.slice (some ⟨g,off,none⟩) n cap)).run P w=.ok (.string (tu ns)) w:=by
 subst c;rw[My w src dst e _ _ _ d f h];refine run_bytesToString w ⟨g,off,none⟩ ns.length cap ns ?_;have:=uV (P:=P) w ⟨g,off,none⟩ (ns.map (Value.int .u8)) (λj v b=>by
  have a:(⟨g,off,none⟩:Addr).add j=⟨g,off+j,none⟩:=by unfold Addr.add;split<;>simp_all
  rw[a];exact i j v b)
 rw[yD]at this;exact this
def okR (n:Nat) (out:List (Int×Int)):Prop:=∀x,x∈out->0<=x.1/\x.1<=255/\1<=x.2/\x.2<=n
theorem W9 {out:List (Int×Int)} (h:okR n out) (p) (b:0<=p) (c:p<=255):okR (n+1) (og out p):=by
 intro x a;cases out with
 | nil=>
  simp only[og,xZ]at a;subst a;simp only;omega
 | cons y r=>
  simp only[og]at a;split at a
  .rcases yZ.1 a with rfl|a
   .have:=h y (by simp);simp only;omega
   .have:=h x (by simp[a]);omega
  .rcases yZ.1 a with rfl|a
   .simp only;omega
   .have:=h x a;omega
theorem LS (out) (p):(og out p).length<=out.length+1:=by
 cases out with
 | nil=>simp[og]
 | cons y r=>simp only[og];split<;>simp
theorem iU (l) (p):ofR (l++[p])=og (ofR l) p:=by simp[ofR]
theorem QK : ∀(n) (l),l.length=n->(∀p,p∈l->0<=p/\p<=255)->okR n (ofR l)/\(ofR l).length<=n
 | 0,l,a,_=>by have  :=yz.1 a;subst this;exact⟨λx f=>by simp[ofR]at f,by simp[ofR]⟩
 | n+1,l,a,h=>by obtain⟨m,p,rfl⟩:∃m p,l=m++[p]:=⟨l.dropLast,l.getLast (by intro e;subst e;simp at a),(nI _).symm⟩;have d:=QK n m (by simpa using a) (λq c=>h q (by simp[c]));have b:=h p (by simp);rw[iU];exact⟨W9 d.1 p b.1 b.2,by have:=LS (ofR m) p;omega⟩
def u8s (l:List Int):List Value:=l.map λn=>Value.int .u8 n
def uM (w:World) (v:Value) (l:List Int):Prop:=uq w v 1 l.length (u8s l)
theorem Ch (l) (j) (a:j<l.length):(u8s l)[j]?=some (.int .u8 (l[j])):=by simp[u8s,a]
theorem wd (l):(u8s l).length=l.length:=by simp[u8s]
theorem pX (a b):u8s (a++b)=u8s a++u8s b:=by simp[u8s]
theorem ZP (l) (n):u8s (l.take n)=(u8s l).take n:=by simp[u8s]
theorem no (l) (n):u8s (l.drop n)=(u8s l).drop n:=by simp[u8s]
theorem gZ (l):∀v∈u8s l,v.oneCell'=true:=by intro v a;simp only[u8s,yd]at a;obtain⟨b,_,rfl⟩:=a;rfl
def upd (D:Nat->Bool) (i:Nat):Nat->Bool:=λj=>D j||decide (j=i)
theorem O3 (D) (i):upd D i i=true:=by simp[upd]
theorem rQ (h:j≠i):upd D i j=D j:=by simp[upd,h]
theorem pz (h:upd D i j=true) (a:j≠i):D j=true:=by rwa [rQ a]at h
def left : List Bool->Nat
 | []=>0
 | b::l=>(if b then 0 else 1)+left l
theorem WB : ∀(l) (i),l[i]?=some false->left (l.set i true)+1=left l
 | [],i,h=>by simp at h
 | b::l,0,h=>by simp at h;subst h;simp[left,MZ]
 | b::l,i+1,h=>by have:=WB l i (by simpa using h);simp only[yb,left];omega
theorem UB : ∀(l),left l=0->∀(i:Nat) (b),l[i]?=some b->b=true
 | [],_,i,b,h=>by simp at h
 | c::l,a,0,b,h=>by
  simp at h;subst h;cases c
  .simp[left]at a
  .rfl
 | c::l,a,i+1,b,h=>by refine UB l ?_ i b (by simpa using h);simp only[left]at a;omega
def Ot (l:List Oper):Bool:=l.zipIdx.all λ(o,i)=>o.after.all λe=> !Region.binds .any e||decide (e.on<i)
section
variable {P : Program} {l : List Oper} {Q : Exit->Act->World->Prop}
theorem FO (p:Ot l=true) (L) (q:L.size=l.length) (h:Region.ready .any l.toArray L=[]):∀n i,i<n->i<l.length->L.getD i false=true:=by
 intro n
 induction n with
 | zero=>intro i o;omega
 | succ n j=>
  intro i o a;cases f:L.getD i false with
  | true=>rfl
  | false=>
   exfalso;have d:i∈Region.ready .any l.toArray L:=by
    refine rc.2 ⟨?_,l[i],by simp[a],λe g c=>?_⟩
    .have b:i<L.size:=(by omega);simp[b]at f |-;exact f
    .have m:=(xp.1 p) (l[i],i) (List.mk_mem_zipIdx_iff_getElem?.2 (by simp[a]));have k:=(xJ.1 m) e g;simp[c]at k;exact j e.on (by omega) (by omega)
   rw[h]at d;cases d
theorem Ed (G:Ot l=true) (I:(Nat->Bool)->Act->World->Prop)
 (F:∀(D) (a) (w),I D a w->∀(i) (o),l[i]?=some o->D i=false->(∀e∈o.after,Region.binds .any e=true->D e.on=true) ->
  if Region.wanted o (yielded l.toArray a.tmps) then o.wp P a w (λa' w'=>I (upd D i) a' w') Q else I (upd D i) (a.put o.dst undef) w)
 (E:∀(D) (a) (w),I D a w->(∀i,i<l.length->D i=true)->Q .normal a w):
 ∀(fuel) (L) (a) (w),L.size=l.length->left L.toList<=fuel->I (λj=>L.getD j false) a w->wpAny P .any l.toArray Q fuel L a w:=by
 intro fuel
 induction fuel with
 | zero=>
  intro L a w s z p;have x:∀i,i<l.length->L.getD i false=true:=λi q=>by have b:i<L.size:=(by omega);have:=UB L.toList (by omega) i L[i] (by simp[b]);simp[b,this]
  refine⟨?_,E _ _ _ p x⟩;cases k:Region.ready .any l.toArray L with
  | nil=>rfl
  | cons i y=>
   exfalso;have B:i∈Region.ready .any l.toArray L:=(by rw[k];simp);obtain⟨g,o,m,_⟩:=rc.1 B;have n:i<l.length:=(by simpa using (wb.1 m).1);have r:=x i n;have b:i<L.size:=(by omega);simp[b]at g r;rw[g]at r;cases r
 | succ fuel C=>
  intro L a w s z p;refine⟨λk=>E _ _ _ p λi q=>FO G L s k (i+1) i (by omega) q,λi q=>?_⟩;obtain⟨g,o,m,A⟩:=rc.1 q;have n:i<l.length:=by simpa using (wb.1 m).1
  have b:i<L.size:=by omega
  have f:=F _ a w p i o (by simpa using m) (by simp[b]at g;simp[b,g]) A;have d:L.toList[i]?=some false:=by simp[b]at g;simp[b,g]
  have c:∀a' w',I (upd (λj=>L.getD j false) i) a' w'->wpAny P .any l.toArray Q fuel (L.setIfInBounds i true) a' w':=λa' w' u=>by
   refine C _ a' w' (by simpa using s) ?_ ?_
   .have:=WB L.toList i d;simp only[Cf];omega
   .have e:(λj=>(L.setIfInBounds i true).getD j false)=upd (λj=>L.getD j false) i:=by
     funext j
     unfold upd;by_cases v:j=i
     .subst v;simp[b]
     .rw[getD_set_ne false (λh=>v h.symm)];simp[v]
    rw[e];exact u
  unfold wpOp;rw[m];simp only;split
  .rename_i t;rw[ze t]at f;exact zu (uN c f)
  .rename_i t;rw[zb t]at f;exact c _ _ f
theorem mq {id:Nat} (f:P.follows .mixedOrders=true) (g:Ot l=true) (I:(Nat->Bool)->Act->World->Prop)
 (h:I (λ_=>false) a w.drew)
 (c:∀(D) (a) (w),I D a w->∀(i) (o),l[i]?=some o->D i=false->(∀e∈o.after,Region.binds .any e=true->D e.on=true) ->
  if Region.wanted o (yielded l.toArray a.tmps) then o.wp P a w (λa' w'=>I (upd D i) a' w') Q else I (upd D i) (a.put o.dst undef) w)
 (d:∀(D) (a) (w),I D a w->(∀i,i<l.length->D i=true)->Q .normal a w):(Code.region id l.toArray true).wp P Q a w:=by
 refine wp_region_any f (Ed g I c d _ _ _ _ (by simp) ?_ ?_)
 .have:∀n,left (List.replicate n false)=n:=λn=>by
   induction n with
   | zero=>rfl
   | succ n b=>rw[wY];simp only[left,b];simp;omega
  simp[this]
 .have e:(λj=>(Array.replicate l.toArray.size false).getD j false)=λ_=>false:=by
   funext j
   simp only[xh,Array.getElem?_replicate];split<;>rfl
  rw[e];exact h
end
section
variable {P : Program} {o : Oper} {a : Act} {w : World} {K : Act->World->Prop} {Q : Exit->Act->World->Prop}
theorem PF {X:Prop} (b:o.guard=none) (h:o.wp P a w K Q):if Region.wanted o (yielded ops a.tmps) then o.wp P a w K Q else X:=by rw[ze (by simp[Region.wanted,b])];exact h
theorem tj (x) (b:o.op=.move x) (h:K (a.put o.dst (a.eval x)) w):o.wp P a w K Q:=by unfold Oper.wp execOp;simp only[b];exact h
theorem Rg (x) (b:o.op=.assign x) (h:K (a.put o.dst (a.eval x)) w):o.wp P a w K Q:=by unfold Oper.wp execOp;simp only[b];exact h
end
section
variable {P : Program}
theorem jo (w) (g off) (t ty) (cs A) (fr) (d) (hg:w.heap[g]?=some (.cells cs t fr)) (hA:∀j,j<A.size->cs[off+j]?=A[j]?)
 (hu:P.underlying ty=some d) (hd:(match d with|.struct _|.array _ _=>true|_=>false)=true) (hi:(P.info? ty).map (·.size)=some A.size):
 (loadVar ty ⟨g,off,none⟩).run P w=.ok (.agg A) w:=by
 have e:=
  uV (P:=P) w ⟨g,off,none⟩ A.toList (λj v f=>by have a:(⟨g,off,none⟩:Addr).add j=⟨g,off+j,none⟩:=(by unfold Addr.add;split<;>simp_all);have h:=(zG.1 f).1;rw[a,xQ w g _ cs t fr hg,hA j (by simpa using h)];simpa using f)
 cases c:P.info? ty with
 | none=>simp[c]at hi
 | some i=>
  have k:i.size=A.size:=by simpa[c]using hi
  have b:(isAgg ty).run P w=.ok true w:=by unfold isAgg;rw[Nn,wP hu w];cases d<;>simp_all
  simp only[ye,Array.toArray_toList]at e;simp[loadVar,Nn,b,sizeOf,typeInfo,c,k,e]
theorem Cr {o:Oper} {a:Act} {w:World} {K:Act->World->Prop} {Q:Exit->Act->World->Prop} (ty) (x) (ho:o.op=.load ty x)
 (g off) (hx:a.eval x=.pointer (some ⟨g,off,none⟩)) (t) (cs A) (fr) (d) (hg:w.heap[g]?=some (.cells cs t fr)) (hA:∀j,j<A.size->cs[off+j]?=A[j]?)
 (hu:P.underlying ty=some d) (hd:(match d with|.struct _|.array _ _=>true|_=>false)=true) (hi:(P.info? ty).map (·.size)=some A.size)
 (h:K (a.put o.dst (.agg A)) w):o.wp P a w K Q:=by
 unfold Oper.wp execOp;simp only[ho,hx,Instr.loadAt,Instr.sureAddr,Nn,vP,yM,jo w g off t ty cs A fr d hg hA hu hd hi];exact h
theorem uU {ops:Array Oper} {rest:List Oper} {o:Oper} {a:Act} {w:World} {Q:Exit->Act->World->Prop} (hw:Region.wanted o (yielded ops a.tmps)=true) (ty) (x) (ho:o.op=.load ty x)
 (g off) (hx:a.eval x=.pointer (some ⟨g,off,none⟩)) (t) (cs A) (fr) (d) (hg:w.heap[g]?=some (.cells cs t fr)) (hA:∀j,j<A.size->cs[off+j]?=A[j]?)
 (hu:P.underlying ty=some d) (hd:(match d with|.struct _|.array _ _=>true|_=>false)=true) (hi:(P.info? ty).map (·.size)=some A.size)
 (h:wpList P ops Q rest (a.put o.dst (.agg A)) w):wpList P ops Q (o::rest) a w:=
 PA hw λ_ b=>Cr ty x ho g off hx t cs A fr d hg hA hu hd hi (b _ _ h)
theorem Lv (w) (g off) (t ty) (old A B) (e:w.heap[g]?=some (.cells old t)) (d:(P.info? ty).map (·.size)=some A.size)
 (h:off+A.size<=old.size) (f:A.all (·.oneCell')=true) (hB:(old.toList.take off++A.toList++old.toList.drop (off+A.size)).toArray=B):
 (storeVar ty ⟨g,off,none⟩ (.agg A)).run P w=.ok () (w.setRow g B):=by
 have:=wS P g off t A.toList 0 old w e (by simp;omega) (λv b=>(xJ.1 f) v (by simpa using b));simp only[va,ye]at this;rw[hB]at this;cases a:P.info? ty with
 | none=>simp[a]at d
 | some i=>
  have c:A.size=i.size:=by simp[a]at d;omega
  simp[storeVar,sizeOf,typeInfo,a,Value.cells,c,this]
theorem L3 {K:Act->World->Prop} (ty) (x y) (c:o.op=.store ty x y)
 (g off) (A) (d:a.eval x=.pointer (some ⟨g,off,none⟩)) (e:a.eval y=.agg A)
 (t) (old B) (f:w.heap[g]?=some (.cells old t)) (i:(P.info? ty).map (·.size)=some A.size)
 (b:off+A.size<=old.size) (j:A.all (·.oneCell')=true) (hB:(old.toList.take off++A.toList++old.toList.drop (off+A.size)).toArray=B)
 (h:K (a.put o.dst undef) (w.setRow g B)):o.wp P a w K Q:=by
 unfold Oper.wp execOp;simp only[c,d,e,Instr.storeAt,Instr.sureAddr,Nn,vP,yM,Lv w g off t ty old A B f i b j hB];exact h
theorem rT {rest:List Oper} (d:o.guard=none) (ty) (x y) (e:o.op=.store ty x y)
 (g off) (A) (f:a.eval x=.pointer (some ⟨g,off,none⟩)) (i:a.eval y=.agg A)
 (t) (old B) (j:w.heap[g]?=some (.cells old t)) (k:(P.info? ty).map (·.size)=some A.size)
 (c:off+A.size<=old.size) (l:A.all (·.oneCell')=true) (hB:(old.toList.take off++A.toList++old.toList.drop (off+A.size)).toArray=B)
 (h:wpList P ops Q rest (a.put o.dst undef) (w.setRow g B)):wpList P ops Q (o::rest) a w:=
 tQ d λ_ b=>L3 ty x y e g off A f i t old B j k c l hB (b _ _ h)
theorem Zv {ops:Array Oper} {w:World} {Q:Act->Prop} {rest:List Oper} {o:Oper} {a:Act} (hw:Region.wanted o (yielded ops a.tmps)=true) (ty) (x) (ho:o.op=.load ty x)
 (g off) (hx:a.eval x=.pointer (some ⟨g,off,none⟩)) (t) (cs A) (fr) (d) (hg:w.heap[g]?=some (.cells cs t fr)) (hA:∀j,j<A.size->cs[off+j]?=A[j]?)
 (hu:P.underlying ty=some d) (hd:(match d with|.struct _|.array _ _=>true|_=>false)=true) (hi:(P.info? ty).map (·.size)=some A.size)
 (h:wpStill P ops w Q rest (a.put o.dst (.agg A))):wpStill P ops w Q (o::rest) a:=by
 unfold wpStill;rw[ze hw];unfold Oper.still execOp;simp only[ho,hx,Instr.loadAt,Instr.sureAddr,Nn,vP,yM,jo w g off t ty cs A fr d hg hA hu hd hi];exact⟨rfl,h⟩
theorem Gc (A:Array Value):∀j,j<A.size->A[0+j]?=A[j]? :=λj _=>by rw[yF]
end
