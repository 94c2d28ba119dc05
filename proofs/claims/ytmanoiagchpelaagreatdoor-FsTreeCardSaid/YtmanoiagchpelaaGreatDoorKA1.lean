import Derived.Test.YtmanoiagchpelaaGreatDoorKA0
import Derived.ProofKit
import Derived.Laws.Bits64b
set_option maxHeartbeats 0
set_option linter.all false
set_option maxRecDepth 100000
namespace Go.Proofs.YtmanoiagchpelaaGreatDoor
open Go.ChangeShapes Go.WideShapes Go.ChangeAt Go.RowKit
abbrev qO:=@DataW.trod_int
abbrev sL:=@setCell_eq_setRow
abbrev sW:=@World.cell?_setCell_same
theorem Ht {H:Type} {enc:TypeId×Value->H} {P:Program} (k:laidOutB P=true) {W W':World} (l:Below W W W'):∀{ts} {vs} {ds} {ps},
 (∀t,t∈ts->P.readableRec t=true/\t<P.types.size)->(∀p,p∈ps->p.block<W.heap.size)->DataW.TrodAll enc P W 0 (fun _=>true) true ts vs ds ps->DataW.TrodAll enc P W' 0 (fun b=>decide (b<W.heap.size)) true ts vs ds ps
 | [],[],[],_,_,_,h=>h
 | t::ts,v::vs,d::ds,ps,c,a,h=>by obtain⟨p,q,j,f,rfl⟩:=h;refine⟨p,q,Below.trod k (c t (by simp)).1 (c t (by simp)).2 j l fun x e=>a x (by simp[e]),?_,rfl⟩;exact Ht k l (fun g i=>c g (by simp[i])) (fun x e=>a x (by simp[e])) f
 | [],[],_::_,_,_,_,h=>by cases h
 | [],_::_,_,_,_,_,h=>by cases h
 | _::_,[],_,_,_,_,h=>by cases h
 | _::_,_::_,[],_,_,_,h=>by cases h
theorem yblb {H:Type} {enc:TypeId×Value->H} {P:Program} {f:Func} {s:ChangeSpec} {W W':World} {args:Array Value} {ds gs:List (DataW H)} {before:List MemPlace} (T)
 (u:laidOutB P=true) (v:f.params.toList.all (fun t=>P.readableRec t&&decide (t<P.types.size))=true) (o:s.vars=[]) (m:f.resultTypes=#[T]) (w:P.underlying T=some .bool)
 (n:DataW.Whole enc P f.params.toList s.vars false W args.toList ds gs before) (l:s.fn H (ds++gs)={results:=[.lit (.bool true)],args:=ds}) (r:Below W W W'):
 s.post enc P f false true false false W args (.bool true) W':=by
 have a:∀p∈before,p.block<W.heap.size:=fun p e=>n.lt p e;obtain⟨p,q,g,b,c,j,k⟩:=id n;rw[o]at b;obtain⟨rfl,rfl⟩:=trodVars_none b;simp only[yX]at c;subst c;refine⟨ds,[],before,[],before,[],n,?_,?_,?_,World.keptBut_mono (fun x d=>⟨d,zu (zr d)⟩) (r.frame (·∈before)),fun h=>by cases h⟩
 .rw[l,m];exact⟨[],[],⟨1,by simp[DataW.trod,Value.cells,w]⟩,rfl,rfl⟩
 .rw[l];refine Ht u r (fun t i=>?_) a g;have:=(yW.1 v) t i;simpa using this
 .rw[l,o];exact rfl
end Go.Proofs.YtmanoiagchpelaaGreatDoor
namespace Go.Proofs.YtmanoiagchpelaaGreatDoor
variable {h:Nat}
abbrev Wr:=Nat×List Int
abbrev Rb:=Nat×List Int×Bool
def sC (R:List Wr) (n:Nat):Option (List Int):=R.foldl (fun o x=>if x.1=n then some x.2 else o) none
theorem UM (R) (x) (n):sC (R++[x]) n=if x.1=n then some x.2 else sC R n:=by unfold sC;rw[xG];rfl
def farN (h n:Nat):Nat:=(n+256-h)%256
def tt (R:List Wr) (h:Nat):List Wr:=(List.range 256).filterMap fun i=>(sC R ((h+i)%256)).map fun D=>((h+i)%256,D)
def pR (R:List Wr) (h:Nat):Nat:=match (tt R h).getLast? with|some x=>x.1|none=>h
def emit (P:List Wr):List Rb:=P.map fun x=>(x.1,x.2,false)
def barR : Rb:=(0,[],true)
def rh (acc:List Wr) (h:Nat):List Rb->List Rb
 | []=>emit (tt acc h)
 | (n,D,b)::l=>if b then emit (tt acc h)++barR::rh [] (pR acc h) l else rh (acc++[(n,D)]) h l
def qA (l:List Rb) (h:Nat):List Rb:=rh [] h l
theorem Y5 (h i) (a:h<256) (b:i<256):farN h ((h+i)%256)=i:=by unfold farN;omega
theorem Sq {a b:Nat} (c:h<256) (d:a<256) (f:b<256) (e:farN h a=farN h b):a=b:=by unfold farN at e;omega
theorem gj (h n):farN h n<256:=by unfold farN;omega
theorem QC (h n) (a:h<256) (b:n<256):(h+farN h n)%256=n:=by unfold farN;omega
theorem Zn (R) (h) (f:h<256) (x):x∈tt R h↔x.1<256/\sC R x.1=some x.2:=by
 unfold tt;rw[List.mem_filterMap];constructor
 .rintro ⟨i,e,a⟩;rw[Option.map_eq_some_iff]at a;obtain⟨D,d,rfl⟩:=a;exact⟨sr _ (by omega),d⟩
 .rintro ⟨c,b⟩;refine⟨farN h x.1,yH.2 (gj _ _),?_⟩;rw[QC h x.1 f c,b];rfl
theorem I6 (R) (h) (i:h<256):(tt R h).Pairwise fun a b=>farN h a.1<farN h b.1:=by unfold tt;rw[List.pairwise_filterMap];refine (List.pairwise_lt_range (n:=256)).imp_of_mem ?_;intro a b f g c x e y d;rw[Option.map_eq_some_iff]at e d;obtain⟨_,_,rfl⟩:=e;obtain⟨_,_,rfl⟩:=d;show farN h ((h+a)%256)<farN h ((h+b)%256);rw[Y5 h a i (yH.1 f),Y5 h b i (yH.1 g)];exact c
theorem MV {A B:List Wr} (j:A.Pairwise fun a b=>farN h a.1<farN h b.1) (hB:B.Pairwise fun a b=>farN h a.1<farN h b.1) (k:∀x,x∈A↔x∈B):A=B:=by
 have c:∀{l:List Wr},(l.Pairwise fun a b=>farN h a.1<farN h b.1)->l.Nodup:=fun d=>d.imp fun f e=>by subst e;omega
 refine List.Perm.eq_of_pairwise (fun a b _ _ i g=>?_) j hB ((ic (c j) (c hB)).2 k);omega
theorem PQ {O R:List Wr} (c:h<256) (d:O.Pairwise fun a b=>farN h a.1<farN h b.1) (e:∀x,x∈O↔x.1<256/\sC R x.1=some x.2):O=tt R h:=
 MV d (I6 R h c) fun x=>(e x).trans (Zn R h c x).symm
theorem VM (R) (n) (D) (h:sC R n=some D):(n,D)∈R:=by
 have b:∀(R:List Wr) (o),R.foldl (fun o x=>if x.1=n then some x.2 else o) o=some D->o=some D\/(n,D)∈R:=by
  intro R
  induction R with
  | nil=>intro o h;exact zr h
  | cons x R c=>
   intro o h;rcases c _ h with a|a
   .dsimp only at a;split at a
    .rename_i e;injection a with a;exact zu (by rw[<-e,<-a];simp)
    .exact zr a
   .exact zu (yZ _ a)
 rcases b R none h with h|h
 .cases h
 .exact h
theorem K9 (R) (n):sC R n=none↔∀x∈R,x.1≠n:=by
 have a:∀(R:List Wr) (o),R.foldl (fun o x=>if x.1=n then some x.2 else o) o=none↔o=none/\∀x∈R,x.1≠n:=by
  intro R
  induction R with
  | nil=>intro o;simp
  | cons x R b=>
   intro o;rw[wl,b];by_cases e:x.1=n
   .rw[ze e];simp[e]
   .rw[zb e];simp[e]
 unfold sC;rw[a R none];exact⟨fun h=>h.2,fun h=>⟨rfl,h⟩⟩
theorem J1 {R:List Wr} (f:(R.map fun x=>x.1).Nodup) {x:Wr} (g:x∈R):sC R x.1=some x.2:=by
 cases h:sC R x.1 with
 | none=>exact zY rfl ((K9 R x.1).1 h x g)
 | some D=>
  have e:=VM R x.1 D h;have:(x.1,D)=x:=by
   rw[List.Nodup,xW]at f;obtain⟨i,d,a⟩:=va e;obtain⟨j,c,b⟩:=va g;have p:=xZ.1 f;rcases Nat.lt_trichotomy i j with h|h|h
   .exact zY (by rw[a,b]) (p i j d c h)
   .subst h;rw[<-a,<-b]
   .exact zY (by rw[a,b]) (p j i c d h)
  rw[<-this]
theorem IA (R) (h) (b:h<256):((tt R h).map fun x=>x.1).Nodup:=by rw[List.Nodup,xW];exact (I6 R h b).imp fun a e=>by rw[e]at a;omega
theorem J2 (R) (h n) (c:h<256) (d:n<256):sC (tt R h) n=sC R n:=by
 cases e:sC R n with
 | none=>
  rw[K9];intro x b a;have:=((Zn R h c x).1 b).2;rw[a,e]at this;cases this
 | some D=>exact J1 (IA R h c) (x:=(n,D)) ((Zn R h c _).2 ⟨d,e⟩)
theorem L7 {α β:Type} {f g:α->Option β} {l:List α} (h:∀x∈l,f x=g x):l.filterMap f=l.filterMap g:=by
 induction l with
 | nil=>rfl
 | cons x l a=>
  rw[List.filterMap_cons,List.filterMap_cons,h x (by simp),a fun y b=>h y (by simp[b])]
theorem Ga {A B:List Nat} (g:A.Nodup) (h:∀n∈A,n∈B):A.length<=B.length:=by
 induction A generalizing B with
 | nil=>exact ye _
 | cons a A d=>
  rw[vJ]at g;have b:=h a (by simp);have:=d (B:=B.erase a) g.2 fun n c=>by rw[List.mem_erase_of_ne (fun e=>g.1 (by rw[<-e];exact c))];exact h n (by simp[c])
  rw[List.length_erase_of_mem b]at this;have f:=rT b;rw[yx];omega
theorem UI (R) (h) (a:h<256):tt (tt R h) h=tt R h:=by unfold tt;refine L7 ?_;intro i _;have:=J2 R h ((h+i)%256) a (sr _ (by omega));unfold tt at this;rw[this]
theorem ZW (R) (h) (b:h<256):pR R h<256:=by
 unfold pR;split
 .rename_i x a;exact ((Zn R h b x).1 (List.mem_of_getLast? a)).1
 .exact b
theorem Li (R) (h) (a:h<256):pR (tt R h) h=pR R h:=by unfold pR;rw[UI R h a]
theorem jU (acc P) (h):rh acc h (emit P)=emit (tt (acc++P) h):=by
 induction P generalizing acc with
 | nil=>rw[yX];rfl
 | cons x P a=>
  show (if false=true then _ else rh (acc++[(x.1,x.2)]) h (emit P))=_;rw[zb (by simp),a,zP];rfl
theorem VP (acc P) (h) (l:List Rb) (m) (D):rh acc h (emit P++(m,D,true)::l)=emit (tt (acc++P) h)++barR::rh [] (pR (acc++P) h) l:=by
 induction P generalizing acc with
 | nil=>rw[yX];rfl
 | cons x P a=>
  show (if false=true then _ else rh (acc++[(x.1,x.2)]) h (emit P++(m,D,true)::l))=_;rw[zb (by simp),a,zP];rfl
theorem gZ (l):(∃P,l=emit P)\/∃P m D r,l=emit P++(m,D,true)::r/\r.length<l.length:=by
 induction l with
 | nil=>exact zr ⟨[],rfl⟩
 | cons x l a=>
  obtain⟨n,D,b⟩:=x;cases b with
  | true=>exact zu ⟨[],n,D,l,rfl,by simp⟩
  | false=>
   rcases a with⟨P,rfl⟩|⟨P,m,E,r,rfl,c⟩
   .exact zr ⟨(n,D)::P,rfl⟩
   .exact zu ⟨(n,D)::P,m,E,r,rfl,by simp at c ⊢;omega⟩
theorem ycgj (l) (h) (f:h<256):qA (qA l h) h=qA l h:=by
 unfold qA;have b:∀(k) (l) (h),h<256->l.length<=k->rh [] h (rh [] h l)=rh [] h l:=by
  intro k
  induction k with
  | zero=>
   intro l h f c;have:l=[]:=(by cases l with|nil=>rfl|cons a l=>simp at c);subst this;show rh [] h (emit (tt [] h))=_;rw[jU,yU,UI [] h f];rfl
  | succ k d=>
   intro l h f c;rcases gZ l with⟨P,rfl⟩|⟨P,m,D,r,rfl,e⟩
   .rw[jU,jU,yU,yU,UI P h f]
   .rw[VP,yU];show rh [] h (emit (tt P h)++(0,[],true)::_)=_;rw[VP,yU,UI P h f,Li P h f,d r _ (ZW P h f) (by omega)]
 exact b l.length l h f zL
theorem Z1 (R) (h) (e:h<256):(tt R h).length<=R.length:=by
 have b:=IA R h e;have a:∀n∈(tt R h).map (fun x=>x.1),n∈R.map fun x=>x.1:=by intro n d;obtain⟨x,c,rfl⟩:=zU.1 d;exact zU.2 ⟨_,VM R x.1 x.2 ((Zn R h e x).1 c).2,rfl⟩
 have:=Ga b a;simpa using this
theorem K6 (l) (h) (i:h<256):(rh [] h l).length<=l.length:=by
 have b:∀(k) (l) (h),h<256->l.length<=k->(rh [] h l).length<=l.length:=by
  intro k
  induction k with
  | zero=>
   intro l h i c;have:l=[]:=(by cases l with|nil=>rfl|cons a l=>simp at c);subst this;have:=Z1 [] h i;simpa[rh,emit]using this
  | succ k d=>
   intro l h i c;rcases gZ l with⟨P,rfl⟩|⟨P,m,D,r,rfl,g⟩
   .rw[jU,yU];have:=Z1 P h i;simpa[emit]using this
   .rw[VP,yU];have f:=Z1 P h i;have e:=d r _ (ZW P h i) (by omega);simp[emit]at *
    omega
 exact b l.length l h i zL
open Go.RowKit
def Za (n c:Int):Int:=bits .xor .u32 n (c%4294967296)*16777619%4294967296
theorem JI (n c):0<=Za n c/\Za n c<4294967296:=by unfold Za;omega
def sumB (n:Int) (b:List Int):Int:=b.foldl Za n
theorem Po (n) (b) (c):sumB n (b++[c])=Za (sumB n b) c:=by unfold sumB;rw[xG];rfl
theorem jg {n:Int} (h:0<=n/\n<4294967296) (b):0<=sumB n b/\sumB n b<4294967296:=by
 unfold sumB
 induction b generalizing n with
 | nil=>exact h
 | cons c b a=>exact a (JI n c)
def sumW (l:List Wr):Int:=l.foldl (fun n x=>sumB (sumB n [x.1]) x.2) 2166136261
theorem Wn (l) (x):sumW (l++[x])=sumB (sumB (sumW l) [x.1]) x.2:=by unfold sumW;rw[xG];rfl
theorem YL (l):0<=sumW l/\sumW l<4294967296:=by
 have a:∀k,k<=l.length->0<=sumW (l.take k)/\sumW (l.take k)<4294967296:=by
  intro k
  induction k with
  | zero=>intro _;show (0:Int)<=2166136261/\(2166136261:Int)<4294967296;omega
  | succ k b=>
   intro c;rw[<-zR (show k<l.length by omega),Wn];exact jg (jg (b (by omega)) _) _
 have:=a l.length zL
 rwa [xJ]at this
def uY (n:Int):List Int:=[n%256,n / 256%256,n / 65536%256,n / 16777216]
def rdB (a b c d:Int):Int:=bits .or .u32 (bits .or .u32 (bits .or .u32 (a%4294967296) (b%4294967296*256%4294967296)) (c%4294967296*65536%4294967296)) (d%4294967296*16777216%4294967296)
theorem gM (n) (b:0<=n) (c:n<4294967296):∀x∈uY n,0<=x/\x<=255:=by intro x a;unfold uY at a;simp at a;omega
