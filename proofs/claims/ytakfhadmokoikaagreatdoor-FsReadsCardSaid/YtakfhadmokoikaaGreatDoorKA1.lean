import Derived.Test.YtakfhadmokoikaaGreatDoorKA0
import Derived.ProofKit
import Derived.Laws.Bits64b
set_option maxHeartbeats 0
set_option linter.all false
set_option maxRecDepth 100000
namespace Go.Proofs.YtakfhadmokoikaaGreatDoor
open Go.ChangeShapes Go.WideShapes Go.ChangeAt Go.RowKit
abbrev qN:=@DataW.trod_int
abbrev sC:=@setCell_eq_setRow
abbrev sO:=@World.cell?_setCell_same
theorem IB {H:Type} {enc:TypeId×Value->H} {P:Program} (k:laidOutB P=true) {W W':World} (l:Below W W W'):∀{ts:List TypeId} {vs:List Value} {ds:List (DataW H)} {ps:List MemPlace},
 (∀t,t∈ts->P.readableRec t=true/\t<P.types.size)->(∀p,p∈ps->p.block<W.heap.size)->DataW.TrodAll enc P W 0 (fun _=>true) true ts vs ds ps->DataW.TrodAll enc P W' 0 (fun b=>decide (b<W.heap.size)) true ts vs ds ps
 | [],[],[],_,_,_,h=>h
 | t::ts,v::vs,d::ds,ps,c,a,h=>by obtain⟨p,q,j,f,rfl⟩:=h;refine⟨p,q,Below.trod k (c t (by simp)).1 (c t (by simp)).2 j l fun x e=>a x (by simp[e]),?_,rfl⟩;exact IB k l (fun g i=>c g (by simp[i])) (fun x e=>a x (by simp[e])) f
 | [],[],_::_,_,_,_,h=>by cases h
 | [],_::_,_,_,_,_,h=>by cases h
 | _::_,[],_,_,_,_,h=>by cases h
 | _::_,_::_,[],_,_,_,h=>by cases h
theorem ybza {H:Type} {enc:TypeId×Value->H} {P:Program} {f:Func} {s:ChangeSpec} {W W':World} {args:Array Value} {ds gs:List (DataW H)} {before:List MemPlace} (T:TypeId)
 (u:laidOutB P=true) (v:f.params.toList.all (fun t=>P.readableRec t&&decide (t<P.types.size))=true) (o:s.vars=[]) (m:f.resultTypes=#[T]) (w:P.underlying T=some .bool)
 (n:DataW.Whole enc P f.params.toList s.vars false W args.toList ds gs before) (l:s.fn H (ds++gs)={results:=[.lit (.bool true)],args:=ds}) (r:Below W W W'):
 s.post enc P f false true false false W args (.bool true) W':=by
 have a:∀p∈before,p.block<W.heap.size:=fun p e=>n.lt p e;obtain⟨p,q,g,b,c,j,k⟩:=id n;rw[o]at b;obtain⟨rfl,rfl⟩:=trodVars_none b;simp only[xn]at c;subst c;refine⟨ds,[],before,[],before,[],n,?_,?_,?_,World.keptBut_mono (fun x d=>⟨d,zu (zt d)⟩) (r.frame (·∈before)),fun h=>by cases h⟩
 .rw[l,m];exact⟨[],[],⟨1,by simp[DataW.trod,Value.cells,w]⟩,rfl,rfl⟩
 .rw[l];refine IB u r (fun t i=>?_) a g;have:=(yU.1 v) t i;simpa using this
 .rw[l,o];exact rfl
end Go.Proofs.YtakfhadmokoikaaGreatDoor
namespace Go.Proofs.YtakfhadmokoikaaGreatDoor
variable {h:Nat}
abbrev Wr:=Nat×List Int
abbrev Rb:=Nat×List Int×Bool
def ss (R:List Wr) (n:Nat):Option (List Int):=R.foldl (fun o x=>if x.1=n then some x.2 else o) none
theorem VU (R:List Wr) (x:Wr) (n:Nat):ss (R++[x]) n=if x.1=n then some x.2 else ss R n:=by unfold ss;rw[xF];rfl
def farN (h n:Nat):Nat:=(n+256-h)%256
def tO (R:List Wr) (h:Nat):List Wr:=(List.range 256).filterMap fun i=>(ss R ((h+i)%256)).map fun D=>((h+i)%256,D)
def o8 (R:List Wr) (h:Nat):Nat:=match (tO R h).getLast? with|some x=>x.1|none=>h
def emit (P:List Wr):List Rb:=P.map fun x=>(x.1,x.2,false)
def barR : Rb:=(0,[],true)
def rO (acc:List Wr) (h:Nat):List Rb->List Rb
 | []=>emit (tO acc h)
 | (n,D,b)::l=>if b then emit (tO acc h)++barR::rO [] (o8 acc h) l else rO (acc++[(n,D)]) h l
def pM (l:List Rb) (h:Nat):List Rb:=rO [] h l
theorem Yq (h i:Nat) (a:h<256) (b:i<256):farN h ((h+i)%256)=i:=by unfold farN;omega
theorem To {a b:Nat} (c:h<256) (d:a<256) (f:b<256) (e:farN h a=farN h b):a=b:=by unfold farN at e;omega
theorem iO (h n:Nat):farN h n<256:=by unfold farN;omega
theorem RS (h n:Nat) (a:h<256) (b:n<256):(h+farN h n)%256=n:=by unfold farN;omega
theorem fC (R:List Wr) (h:Nat) (f:h<256) (x:Wr):x∈tO R h↔x.1<256/\ss R x.1=some x.2:=by
 unfold tO;rw[List.mem_filterMap];constructor
 .rintro ⟨i,e,a⟩;rw[Option.map_eq_some_iff]at a;obtain⟨D,d,rfl⟩:=a;exact⟨rH _ (by omega),d⟩
 .rintro ⟨c,b⟩;refine⟨farN h x.1,yT.2 (iO _ _),?_⟩;rw[RS h x.1 f c,b];rfl
theorem Iu (R:List Wr) (h:Nat) (i:h<256):(tO R h).Pairwise fun a b=>farN h a.1<farN h b.1:=by unfold tO;rw[List.pairwise_filterMap];refine (List.pairwise_lt_range (n:=256)).imp_of_mem ?_;intro a b f g c x e y d;rw[Option.map_eq_some_iff]at e d;obtain⟨_,_,rfl⟩:=e;obtain⟨_,_,rfl⟩:=d;show farN h ((h+a)%256)<farN h ((h+b)%256);rw[Yq h a i (yT.1 f),Yq h b i (yT.1 g)];exact c
theorem Mj {A B:List Wr} (j:A.Pairwise fun a b=>farN h a.1<farN h b.1) (hB:B.Pairwise fun a b=>farN h a.1<farN h b.1) (k:∀x,x∈A↔x∈B):A=B:=by
 have c:∀{l:List Wr},(l.Pairwise fun a b=>farN h a.1<farN h b.1)->l.Nodup:=fun d=>d.imp fun f e=>by subst e;omega
 refine List.Perm.eq_of_pairwise (fun a b _ _ i g=>?_) j hB ((jQ (c j) (c hB)).2 k);omega
theorem Pa {O R:List Wr} (c:h<256) (d:O.Pairwise fun a b=>farN h a.1<farN h b.1) (e:∀x:Wr,x∈O↔x.1<256/\ss R x.1=some x.2):O=tO R h:=
 Mj d (Iu R h c) fun x=>(e x).trans (fC R h c x).symm
theorem WS (R:List Wr) (n:Nat) (D:List Int) (h:ss R n=some D):(n,D)∈R:=by
 have b:∀(R:List Wr) (o:Option (List Int)),R.foldl (fun o x=>if x.1=n then some x.2 else o) o=some D->o=some D\/(n,D)∈R:=by
  intro R
  induction R with
  | nil=>intro o h;exact zt h
  | cons x R c=>
   intro o h;rcases c _ h with a|a
   .dsimp only at a;split at a
    .rename_i e;injection a with a;exact zu (by rw[<-e,<-a];simp)
    .exact zt a
   .exact zu (xh _ a)
 rcases b R none h with h|h
 .cases h
 .exact h
theorem KF (R:List Wr) (n:Nat):ss R n=none↔∀x∈R,x.1≠n:=by
 have a:∀(R:List Wr) (o:Option (List Int)),R.foldl (fun o x=>if x.1=n then some x.2 else o) o=none↔o=none/\∀x∈R,x.1≠n:=by
  intro R
  induction R with
  | nil=>intro o;simp
  | cons x R b=>
   intro o;rw[wS,b];by_cases e:x.1=n
   .rw[ze e];simp[e]
   .rw[zb e];simp[e]
 unfold ss;rw[a R none];exact⟨fun h=>h.2,fun h=>⟨rfl,h⟩⟩
theorem Jv {R:List Wr} (f:(R.map fun x=>x.1).Nodup) {x:Wr} (g:x∈R):ss R x.1=some x.2:=by
 cases h:ss R x.1 with
 | none=>exact yb rfl ((KF R x.1).1 h x g)
 | some D=>
  have e:=WS R x.1 D h;have:(x.1,D)=x:=by
   rw[List.Nodup,wh]at f;obtain⟨i,d,a⟩:=vn e;obtain⟨j,c,b⟩:=vn g;have p:=wv.1 f;rcases Nat.lt_trichotomy i j with h|h|h
   .exact yb (by rw[a,b]) (p i j d c h)
   .subst h;rw[<-a,<-b]
   .exact yb (by rw[a,b]) (p j i c d h)
  rw[<-this]
theorem J3 (R:List Wr) (h:Nat) (b:h<256):((tO R h).map fun x=>x.1).Nodup:=by rw[List.Nodup,wh];exact (Iu R h b).imp fun a e=>by rw[e]at a;omega
theorem Nv (R:List Wr) (h n:Nat) (c:h<256) (d:n<256):ss (tO R h) n=ss R n:=by
 cases e:ss R n with
 | none=>
  rw[KF];intro x b a;have:=((fC R h c x).1 b).2;rw[a,e]at this;cases this
 | some D=>exact Jv (J3 R h c) (x:=(n,D)) ((fC R h c _).2 ⟨d,e⟩)
theorem IF {A B:List Nat} (g:A.Nodup) (h:∀n∈A,n∈B):A.length<=B.length:=by
 induction A generalizing B with
 | nil=>exact ye _
 | cons a A d=>
  rw[vY]at g;have b:=h a (by simp);have:=d (B:=B.erase a) g.2 fun n c=>by rw[List.mem_erase_of_ne (fun e=>g.1 (by rw[<-e];exact c))];exact h n (by simp[c])
  rw[List.length_erase_of_mem b]at this;have f:0<B.length:=rK b;rw[yz];omega
theorem WF (R:List Wr) (h:Nat) (b:h<256):o8 R h<256:=by
 unfold o8;split
 .rename_i x a;exact ((fC R h b x).1 (List.mem_of_getLast? a)).1
 .exact b
theorem WZ (b P:List Wr) (h:Nat):rO b h (emit P)=emit (tO (b++P) h):=by
 induction P generalizing b with
 | nil=>rw[xn];rfl
 | cons x P a=>
  show (if false=true then _ else rO (b++[(x.1,x.2)]) h (emit P))=_;rw[zb (by simp),a,zU];rfl
theorem KC (b P:List Wr) (h:Nat) (l:List Rb) (m:Nat) (D:List Int):rO b h (emit P++(m,D,true)::l)=emit (tO (b++P) h)++barR::rO [] (o8 (b++P) h) l:=by
 induction P generalizing b with
 | nil=>rw[xn];rfl
 | cons x P a=>
  show (if false=true then _ else rO (b++[(x.1,x.2)]) h (emit P++(m,D,true)::l))=_;rw[zb (by simp),a,zU];rfl
theorem YW (l:List Rb):(∃P,l=emit P)\/∃P m D r,l=emit P++(m,D,true)::r/\r.length<l.length:=by
 induction l with
 | nil=>exact zt ⟨[],rfl⟩
 | cons x l a=>
  obtain⟨n,D,b⟩:=x;cases b with
  | true=>exact zu ⟨[],n,D,l,rfl,by simp⟩
  | false=>
   rcases a with⟨P,rfl⟩|⟨P,m,E,r,rfl,c⟩
   .exact zt ⟨(n,D)::P,rfl⟩
   .exact zu ⟨(n,D)::P,m,E,r,rfl,by simp at c ⊢;omega⟩
theorem Zl (R:List Wr) (h:Nat) (e:h<256):(tO R h).length<=R.length:=by
 have b:=J3 R h e;have a:∀n∈(tO R h).map (fun x=>x.1),n∈R.map fun x=>x.1:=by intro n d;obtain⟨x,c,rfl⟩:=zV.1 d;exact zV.2 ⟨_,WS R x.1 x.2 ((fC R h e x).1 c).2,rfl⟩
 have:=IF b a;simpa using this
theorem KB (l:List Rb) (h:Nat) (i:h<256):(rO [] h l).length<=l.length:=by
 have b:∀(k:Nat) (l:List Rb) (h:Nat),h<256->l.length<=k->(rO [] h l).length<=l.length:=by
  intro k
  induction k with
  | zero=>
   intro l h i c;have:l=[]:=(by cases l with|nil=>rfl|cons a l=>simp at c);subst this;have:=Zl [] h i;simpa[rO,emit]using this
  | succ k d=>
   intro l h i c;rcases YW l with⟨P,rfl⟩|⟨P,m,D,r,rfl,g⟩
   .rw[WZ,xj];have:=Zl P h i;simpa[emit]using this
   .rw[KC,xj];have f:=Zl P h i;have e:=d r _ (WF P h i) (by omega);simp[emit]at *
    omega
 exact b l.length l h i zL
open Go.RowKit
def gR (n c:Int):Int:=bits .xor .u32 n (c%4294967296)*16777619%4294967296
theorem Jd (n c:Int):0<=gR n c/\gR n c<4294967296:=by unfold gR;omega
def sumB (n:Int) (b:List Int):Int:=b.foldl gR n
theorem QH (n:Int) (b:List Int) (c:Int):sumB n (b++[c])=gR (sumB n b) c:=by unfold sumB;rw[xF];rfl
theorem kQ {n:Int} (h:0<=n/\n<4294967296) (b:List Int):0<=sumB n b/\sumB n b<4294967296:=by
 unfold sumB
 induction b generalizing n with
 | nil=>exact h
 | cons c b a=>exact a (Jd n c)
def sumW (l:List Wr):Int:=l.foldl (fun n x=>sumB (sumB n [(x.1:Int)]) x.2) 2166136261
theorem XE (l:List Wr) (x:Wr):sumW (l++[x])=sumB (sumB (sumW l) [(x.1:Int)]) x.2:=by unfold sumW;rw[xF];rfl
theorem Z7 (l:List Wr):0<=sumW l/\sumW l<4294967296:=by
 have a:∀k,k<=l.length->0<=sumW (l.take k)/\sumW (l.take k)<4294967296:=by
  intro k
  induction k with
  | zero=>intro _;show (0:Int)<=2166136261/\(2166136261:Int)<4294967296;omega
  | succ k b=>
   intro c;rw[<-zY (show k<l.length by omega),XE];exact kQ (kQ (b (by omega)) _) _
 have:=a l.length zL
 rwa [xN]at this
def uS (n:Int):List Int:=[n%256,n / 256%256,n / 65536%256,n / 16777216]
def rdB (a b c d:Int):Int:=bits .or .u32 (bits .or .u32 (bits .or .u32 (a%4294967296) (b%4294967296*256%4294967296)) (c%4294967296*65536%4294967296)) (d%4294967296*16777216%4294967296)
theorem i9 (n:Int) (b:0<=n) (c:n<4294967296):∀x∈uS n,0<=x/\x<=255:=by intro x a;unfold uS at a;simp at a;omega
