/- Part of the proofs of FsLinks: the texts LawEnd, LiftP, JnP. -/
import Derived.ProofKit
import Derived.Laws.Bits64b
set_option maxHeartbeats 16000000
set_option maxRecDepth 100000
namespace Go.Proofs.YtpoglnpjadmbpaaGreatDoor
open Go.ChangeShapes Go.WideShapes Go.ChangeAt Go.RowKit
theorem qnu {H:Type} {enc:TypeId × Value->H} {P:Program} (hl:laidOutB P=true) {W W':World} (hb:Below W.heap.size W W'):∀ {ts:List TypeId} {vs:List Value} {ds:List (DataW H)} {ps:List MemPlace},
  (∀ t,t ∈ ts->P.readableRec t=true/\t<P.types.size)->(∀ p,p ∈ ps->p.block<W.heap.size)->DataW.TrodAll enc P W 0 (fun _=>true) true ts vs ds ps->DataW.TrodAll enc P W' 0 (fun b=>decide (b<W.heap.size)) true ts vs ds ps
 | [],[],[],_,_,_,h=>h
 | t :: ts,v :: vs,d :: ds,ps,hr,hlt,h=>by
  obtain⟨p,q,h1,h2,rfl⟩:=h
  refine⟨p,q,Below.trod hl (hr t (by simp)).1 (hr t (by simp)).2 h1 hb fun x hx=>hlt x (by simp[hx]),?_,rfl⟩
  exact qnu hl hb (fun t' ht=>hr t' (by simp[ht])) (fun x hx=>hlt x (by simp[hx])) h2
 | [],[],_ :: _,_,_,_,h=>by cases h
 | [],_ :: _,_,_,_,_,h=>by cases h
 | _ :: _,[],_,_,_,_,h=>by cases h
 | _ :: _,_ :: _,[],_,_,_,h=>by cases h
theorem ybsv {H:Type} {enc:TypeId × Value->H} {P:Program} {f:Func} {s:ChangeSpec} {W W':World} {args:Array Value} {ds gs:List (DataW H)} {before:List MemPlace} (T:TypeId)
  (hl:laidOutB P=true) (hr:f.params.toList.all (fun t=>P.readableRec t && decide (t<P.types.size))=true) (hv:s.vars=[]) (hrt:f.resultTypes=#[T]) (hT:P.underlying T=some .bool)
  (hW:DataW.Whole enc P f.params.toList s.vars false W args.toList ds gs before) (hfn:s.fn H (ds++gs)={ results:=[.lit (.bool true)],args:=ds }) (hb:Below W.heap.size W W'):
  s.post enc P f false true false false W args (.bool true) W':=by
 have hlt:∀ p ∈ before,p.block<W.heap.size:=fun p hp=>hW.lt p hp
 obtain⟨p,q,h1,h2,h3,h4,h5⟩:=id hW
 rw[hv]at h2
 obtain⟨rfl,rfl⟩:=trodVars_none h2
 simp only[List.append_nil]at h3
 subst h3
 refine⟨ds,[],before,[],before,[],hW,?_,?_,?_,World.keptBut_mono (fun x hx=>⟨hx,Or.inr (Or.inl hx)⟩) (hb.frame (· ∈ before)),fun h=>by cases h⟩
 ·rw[hfn,hrt]
  exact⟨[],[],⟨1,by simp[DataW.trod,Value.cells,hT]⟩,rfl,rfl⟩
 ·rw[hfn]
  refine qnu hl hb (fun t ht=>?_) hlt h1
  have:=(List.all_eq_true.1 hr) t ht
  simpa using this
 ·rw[hfn,hv]
  exact rfl
end Go.Proofs.YtpoglnpjadmbpaaGreatDoor
namespace Go.Proofs.YtpoglnpjadmbpaaGreatDoor
abbrev Wr := Nat × List Int
abbrev Rb := Nat × List Int × Bool
def qfd (R:List Wr) (n:Nat):Option (List Int):=R.foldl (fun o x=>if x.1=n then some x.2 else o) none
theorem qkm (R:List Wr) (x:Wr) (n:Nat):qfd (R++[x]) n=if x.1=n then some x.2 else qfd R n:=by
 unfold qfd;rw[List.foldl_append];rfl
def farN (h n:Nat):Nat:=(n+256 - h) % 256
def qeq (R:List Wr) (h:Nat):List Wr:=(List.range 256).filterMap fun i=>(qfd R ((h+i) % 256)).map fun D=>((h+i) % 256,D)
def qmt (R:List Wr) (h:Nat):Nat:=match (qeq R h).getLast? with | some x=>x.1 | none=>h
def emit (P:List Wr):List Rb:=P.map fun x=>(x.1,x.2,false)
def barR : Rb:=(0,[],true)
def qdk (acc:List Wr) (h:Nat):List Rb->List Rb
 | []=>emit (qeq acc h)
 | (n,D,b) :: l=>if b then emit (qeq acc h)++barR :: qdk [] (qmt acc h) l else qdk (acc++[(n,D)]) h l
def qii (l:List Rb) (h:Nat):List Rb:=qdk [] h l
theorem yblh (h i:Nat) (hh:h<256) (hi:i<256):farN h ((h+i) % 256)=i:=by unfold farN;omega
theorem ybxq {h a b:Nat} (hh:h<256) (ha:a<256) (hb:b<256) (e:farN h a=farN h b):a=b:=by unfold farN at e;omega
theorem ybbr (h n:Nat):farN h n<256:=by unfold farN;omega
theorem ybru (h n:Nat) (hh:h<256) (hn:n<256):(h+farN h n) % 256=n:=by unfold farN;omega
theorem qij (R:List Wr) (h:Nat) (hh:h<256) (x:Wr):x ∈ qeq R h ↔ x.1<256/\qfd R x.1=some x.2:=by
 unfold qeq
 rw[List.mem_filterMap]
 constructor
 ·rintro ⟨i,hi,hx⟩
  rw[Option.map_eq_some_iff]at hx
  obtain⟨D,hD,rfl⟩:=hx
  exact⟨Nat.mod_lt _ (by omega),hD⟩
 ·rintro ⟨h1,h2⟩
  refine⟨farN h x.1,List.mem_range.2 (ybbr _ _),?_⟩
  rw[ybru h x.1 hh h1,h2]
  rfl
theorem qph (R:List Wr) (h:Nat) (hh:h<256):(qeq R h).Pairwise fun a b=>farN h a.1<farN h b.1:=by
 unfold qeq
 rw[List.pairwise_filterMap]
 refine (List.pairwise_lt_range (n:=256)).imp_of_mem ?_
 intro a b ha hb hab x hx y hy
 rw[Option.map_eq_some_iff]at hx hy
 obtain⟨_,_,rfl⟩:=hx
 obtain⟨_,_,rfl⟩:=hy
 show farN h ((h+a) % 256)<farN h ((h+b) % 256)
 rw[yblh h a hh (List.mem_range.1 ha),yblh h b hh (List.mem_range.1 hb)]
 exact hab
theorem ybdo {h:Nat} {A B:List Wr} (hA:A.Pairwise fun a b=>farN h a.1<farN h b.1) (hB:B.Pairwise fun a b=>farN h a.1<farN h b.1) (hm:∀ x,x ∈ A ↔ x ∈ B):A=B:=by
 have nd:∀ {l:List Wr},(l.Pairwise fun a b=>farN h a.1<farN h b.1)->l.Nodup:=fun hl=>hl.imp fun hab e=>by subst e;omega
 refine List.Perm.eq_of_pairwise (fun a b _ _ h1 h2=>?_) hA hB ((List.perm_ext_iff_of_nodup (nd hA) (nd hB)).2 hm)
 omega
theorem ybok {O R:List Wr} {h:Nat} (hh:h<256) (hs:O.Pairwise fun a b=>farN h a.1<farN h b.1) (hm:∀ x:Wr,x ∈ O ↔ x.1<256/\qfd R x.1=some x.2):O=qeq R h:=
 ybdo hs (qph R h hh) fun x=>(hm x).trans (qij R h hh x).symm
theorem qmy (R:List Wr) (n:Nat) (D:List Int) (h:qfd R n=some D):(n,D) ∈ R:=by
 have key:∀ (R:List Wr) (o:Option (List Int)),R.foldl (fun o x=>if x.1=n then some x.2 else o) o=some D->o=some D\/(n,D) ∈ R:=by
  intro R
  induction R with
  | nil=>intro o h;exact Or.inl h
  | cons x R ih=>
   intro o h
   rcases ih _ h with h1 | h1
   ·dsimp only at h1
    split at h1
    ·rename_i e
     injection h1 with h1
     exact Or.inr (by rw[<-e,<-h1];simp)
    ·exact Or.inl h1
   ·exact Or.inr (List.mem_cons_of_mem _ h1)
 rcases key R none h with h | h
 ·cases h
 ·exact h
theorem qum (R:List Wr) (n:Nat):qfd R n=none ↔ ∀ x ∈ R,x.1 ≠ n:=by
 have key:∀ (R:List Wr) (o:Option (List Int)),R.foldl (fun o x=>if x.1=n then some x.2 else o) o=none ↔ o=none/\∀ x ∈ R,x.1 ≠ n:=by
  intro R
  induction R with
  | nil=>intro o;simp
  | cons x R ih=>
   intro o
   rw[List.foldl_cons,ih]
   by_cases e:x.1=n
   ·rw[if_pos e];simp[e]
   ·rw[if_neg e];simp[e]
 unfold qfd
 rw[key R none]
 exact⟨fun h=>h.2,fun h=>⟨rfl,h⟩⟩
theorem ybic {R:List Wr} (hn:(R.map fun x=>x.1).Nodup) {x:Wr} (hx:x ∈ R):qfd R x.1=some x.2:=by
 cases h:qfd R x.1 with
 | none=>exact absurd rfl ((qum R x.1).1 h x hx)
 | some D=>
  have hm:=qmy R x.1 D h
  have:(x.1,D)=x:=by
   rw[List.Nodup,List.pairwise_map]at hn
   obtain⟨i,hi,e1⟩:=List.getElem_of_mem hm
   obtain⟨j,hj,e2⟩:=List.getElem_of_mem hx
   have p:=List.pairwise_iff_getElem.1 hn
   rcases Nat.lt_trichotomy i j with h | h | h
   ·exact absurd (by rw[e1,e2]) (p i j hi hj h)
   ·subst h;rw[<-e1,<-e2]
   ·exact absurd (by rw[e1,e2]) (p j i hj hi h)
  rw[<-this]
theorem qsj (R:List Wr) (h:Nat) (hh:h<256):((qeq R h).map fun x=>x.1).Nodup:=by
 rw[List.Nodup,List.pairwise_map]
 exact (qph R h hh).imp fun hab e=>by rw[e]at hab;omega
theorem ybib (R:List Wr) (h n:Nat) (hh:h<256) (hn:n<256):qfd (qeq R h) n=qfd R n:=by
 cases e:qfd R n with
 | none=>
  rw[qum]
  intro x hx hxn
  have:=((qij R h hh x).1 hx).2
  rw[hxn,e]at this
  cases this
 | some D=>exact ybic (qsj R h hh) (x:=(n,D)) ((qij R h hh _).2 ⟨hn,e⟩)
theorem qnc {A B:List Nat} (hA:A.Nodup) (hs:∀ n ∈ A,n ∈ B):A.length<=B.length:=by
 induction A generalizing B with
 | nil=>exact Nat.zero_le _
 | cons a A ih=>
  rw[List.nodup_cons]at hA
  have ha:=hs a (by simp)
  have:=ih (B:=B.erase a) hA.2 fun n hn=>by
   rw[List.mem_erase_of_ne (fun e=>hA.1 (by rw[<-e];exact hn))]
   exact hs n (by simp[hn])
  rw[List.length_erase_of_mem ha]at this
  have h0:0<B.length:=List.length_pos_of_mem ha
  rw[List.length_cons];omega
theorem qmu (R:List Wr) (h:Nat) (hh:h<256):qmt R h<256:=by
 unfold qmt
 split
 ·rename_i x hx
  exact ((qij R h hh x).1 (List.mem_of_getLast? hx)).1
 ·exact hh
theorem qlm (acc P:List Wr) (h:Nat):qdk acc h (emit P)=emit (qeq (acc++P) h):=by
 induction P generalizing acc with
 | nil=>rw[List.append_nil];rfl
 | cons x P ih=>
  show (if false=true then _ else qdk (acc++[(x.1,x.2)]) h (emit P))=_
  rw[if_neg (by simp),ih,List.append_assoc]
  rfl
theorem qop (acc P:List Wr) (h:Nat) (l:List Rb) (m:Nat) (D:List Int):qdk acc h (emit P++(m,D,true) :: l)=emit (qeq (acc++P) h)++barR :: qdk [] (qmt (acc++P) h) l:=by
 induction P generalizing acc with
 | nil=>rw[List.append_nil];rfl
 | cons x P ih=>
  show (if false=true then _ else qdk (acc++[(x.1,x.2)]) h (emit P++(m,D,true) :: l))=_
  rw[if_neg (by simp),ih,List.append_assoc]
  rfl
theorem ybfr (l:List Rb):(∃ P,l=emit P)\/∃ P m D r,l=emit P++(m,D,true) :: r/\r.length<l.length:=by
 induction l with
 | nil=>exact Or.inl ⟨[],rfl⟩
 | cons x l ih=>
  obtain⟨n,D,b⟩:=x
  cases b with
  | true=>exact Or.inr ⟨[],n,D,l,rfl,by simp⟩
  | false=>
   rcases ih with⟨P,rfl⟩ | ⟨P,m,E,r,rfl,hr⟩
   ·exact Or.inl ⟨(n,D) :: P,rfl⟩
   ·exact Or.inr ⟨(n,D) :: P,m,E,r,rfl,by simp at hr ⊢;omega⟩
theorem qjz (R:List Wr) (h:Nat) (hh:h<256):(qeq R h).length<=R.length:=by
 have h1:=qsj R h hh
 have h2:∀ n ∈ (qeq R h).map (fun x=>x.1),n ∈ R.map fun x=>x.1:=by
  intro n hn
  obtain⟨x,hx,rfl⟩:=List.mem_map.1 hn
  exact List.mem_map.2 ⟨_,qmy R x.1 x.2 ((qij R h hh x).1 hx).2,rfl⟩
 have:=qnc h1 h2
 simpa using this
theorem qoq (l:List Rb) (h:Nat) (hh:h<256):(qdk [] h l).length<=l.length:=by
 have key:∀ (k:Nat) (l:List Rb) (h:Nat),h<256->l.length<=k->(qdk [] h l).length<=l.length:=by
  intro k
  induction k with
  | zero=>
   intro l h hh hl
   have:l=[]:=by cases l with | nil=>rfl | cons a l=>simp at hl
   subst this
   have:=qjz [] h hh
   simpa[qdk,emit]using this
  | succ k ih=>
   intro l h hh hl
   rcases ybfr l with⟨P,rfl⟩ | ⟨P,m,D,r,rfl,hr⟩
   ·rw[qlm,List.nil_append]
    have:=qjz P h hh
    simpa[emit]using this
   ·rw[qop,List.nil_append]
    have h1:=qjz P h hh
    have h2:=ih r _ (qmu P h hh) (by omega)
    simp[emit]at *
    omega
 exact key l.length l h hh (Nat.le_refl _)
open Go.RowKit
def qlp (n c:Int):Int:=bits .xor .u32 n (c % 4294967296)*16777619 % 4294967296
theorem qvd (n c:Int):0<=qlp n c/\qlp n c<4294967296:=by unfold qlp;omega
def sumB (n:Int) (b:List Int):Int:=b.foldl qlp n
theorem ybpk (n:Int) (b:List Int) (c:Int):sumB n (b++[c])=qlp (sumB n b) c:=by unfold sumB;rw[List.foldl_append];rfl
theorem qxa {n:Int} (h:0<=n/\n<4294967296) (b:List Int):0<=sumB n b/\sumB n b<4294967296:=by
 unfold sumB
 induction b generalizing n with
 | nil=>exact h
 | cons c b ih=>exact ih (qvd n c)
def sumW (l:List Wr):Int:=l.foldl (fun n x=>sumB (sumB n [(x.1:Int)]) x.2) 2166136261
theorem ybaf (l:List Wr) (x:Wr):sumW (l++[x])=sumB (sumB (sumW l) [(x.1:Int)]) x.2:=by unfold sumW;rw[List.foldl_append];rfl
theorem ybzt (l:List Wr):0<=sumW l/\sumW l<4294967296:=by
 have key:∀ k,k<=l.length->0<=sumW (l.take k)/\sumW (l.take k)<4294967296:=by
  intro k
  induction k with
  | zero=>intro _;show (0:Int)<=2166136261/\(2166136261:Int)<4294967296;omega
  | succ k ih=>
   intro hk
   rw[<-List.take_append_getElem (show k<l.length by omega),ybaf]
   exact qxa (qxa (ih (by omega)) _) _
 have:=key l.length (Nat.le_refl _)
 rwa [List.take_length]at this
def qck (n:Int):List Int:=[n % 256,n / 256 % 256,n / 65536 % 256,n / 16777216]
def rdB (a b c d:Int):Int:=bits .or .u32 (bits .or .u32 (bits .or .u32 (a % 4294967296) (b % 4294967296*256 % 4294967296)) (c % 4294967296*65536 % 4294967296)) (d % 4294967296*16777216 % 4294967296)
end Go.Proofs.YtpoglnpjadmbpaaGreatDoor
