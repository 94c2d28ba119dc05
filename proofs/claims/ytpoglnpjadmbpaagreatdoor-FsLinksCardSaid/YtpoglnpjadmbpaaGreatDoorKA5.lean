/- Part of the proofs of FsLinks: the texts DirP, DirP2, MapZ. -/
import Derived.Test.YtpoglnpjadmbpaaGreatDoorKA4
import Derived.Lib.TrimByte
import Derived.Lib.Bytealg
import Derived.Lib.IndexLaws
import Derived.Maps.RangeWalk
import Derived.Maps.OwnSet
import Derived.Maps.OwnOps
import Derived.Maps.Ext
import Derived.WalkSpells
set_option maxHeartbeats 16000000
set_option maxRecDepth 100000
namespace Go.Proofs.YtpoglnpjadmbpaaGreatDoor
open Go.RowKit
theorem qry : ∀ x:List UInt8,Op.bytesLess x x=false
 | []=>rfl
 | a :: x=>by
  have h:¬ a<a:=UInt8.lt_irrefl a
  simp[Op.bytesLess,h,qry x]
theorem quo : ∀ x y z:List UInt8,Op.bytesLess x y=true->Op.bytesLess y z=true->Op.bytesLess x z=true
 | _,[],_,h,_=>by simp[Op.bytesLess]at h
 | _,_ :: _,[],_,h=>by simp[Op.bytesLess]at h
 | [],_ :: _,_ :: _,_,_=>by simp[Op.bytesLess]
 | a :: x,b :: y,c :: z,h1,h2=>by
  simp only[Op.bytesLess,Bool.or_eq_true,decide_eq_true_eq,Bool.and_eq_true,beq_iff_eq]at *
  rcases h1 with h1 | ⟨rfl,h1⟩
  ·rcases h2 with h2 | ⟨rfl,h2⟩
   ·exact Or.inl (UInt8.lt_trans h1 h2)
   ·exact Or.inl h1
  ·rcases h2 with h2 | ⟨rfl,h2⟩
   ·exact Or.inl h2
   ·exact Or.inr ⟨rfl,quo x y z h1 h2⟩
theorem qun : ∀ x y:List UInt8,Op.bytesLess x y=false->Op.bytesLess y x=false->x=y
 | [],[],_,_=>rfl
 | [],_ :: _,h,_=>by simp[Op.bytesLess]at h
 | _ :: _,[],_,h=>by simp[Op.bytesLess]at h
 | a :: x,b :: y,h1,h2=>by
  simp only[Op.bytesLess,Bool.or_eq_false_iff,decide_eq_false_iff_not,Bool.and_eq_false_iff,beq_eq_false_iff_ne]at *
  have hab:a=b:=by
   apply UInt8.le_antisymm
   ·exact UInt8.not_lt.1 h2.1
   ·exact UInt8.not_lt.1 h1.1
  subst hab
  rw[qun x y (h1.2.resolve_left (by simp)) (h2.2.resolve_left (by simp))]
def lexB (a b:ByteArray):Bool:=Op.bytesLess a.toList b.toList
theorem ybkk {a b:ByteArray} (h:a.toList=b.toList):a=b:=by
 rw[Lib.toList_data,Lib.toList_data]at h
 cases a;cases b
 simp only at h
 rw[Array.toList_inj]at h
 rw[h]
theorem qej (a:ByteArray):lexB a a=false:=qry _
theorem qgv {a b c:ByteArray} (h1:lexB a b=true) (h2:lexB b c=true):lexB a c=true:=quo _ _ _ h1 h2
theorem qic {a b:ByteArray} (h1:lexB a b=false) (h2:lexB b a=false):a=b:=ybkk (qun _ _ h1 h2)
def cmpB (a b:ByteArray):Int:=if lexB a b then -1 else if a=b then 0 else 1
def qjs (s:ByteArray):Bool:= !(s.toList == []) && decide (s.size<=14) && !(s.toList == [46]) && !(s.toList == [46,46]) && !(s.data.toList.contains 0) && !(s.data.toList.contains 47)
def okE (x:En):Bool:=qjs x.1 && decide (1<=x.2) && decide (x.2<=32)
def rD (S:List En):List En->Int
 | []=>0
 | x :: l=>if okE x=false then 3 else if S.any (fun y=>decide (y.1=x.1)) then 5 else rD (S++[x]) l
def qct (l:List En):Int:=if 32<l.length then 2 else rD [] l
theorem ybzh (l:List En):∀ S:List En,(S.map (·.1)).Nodup->(rD S l=0 ↔ (∀ x ∈ l,okE x=true)/\((S++l).map (·.1)).Nodup):=by
 induction l with
 | nil=>intro S hS;simpa[rD]using hS
 | cons x l ih=>
  intro S hS
  unfold rD
  by_cases h1:okE x=false
  ·rw[if_pos h1]
   refine⟨fun h=>absurd h (by decide),fun h=>?_⟩
   have:=h.1 x (by simp)
   rw[h1]at this;cases this
  ·rw[if_neg h1]
   have h1':okE x=true:=by simpa using h1
   by_cases h2:(S.any fun y=>decide (y.1=x.1))=true
   ·rw[if_pos h2]
    refine⟨fun h=>absurd h (by decide),fun h=>?_⟩
    obtain⟨y,hy,he⟩:=List.any_eq_true.1 h2
    have he':y.1=x.1:=by simpa using he
    have h3:=h.2
    rw[List.map_append,List.nodup_append]at h3
    exact absurd he' (h3.2.2 y.1 (List.mem_map.2 ⟨y,hy,rfl⟩) x.1 (by simp))
   ·rw[if_neg h2,ih (S++[x])]
    ·rw[List.append_assoc]
     simp only[List.cons_append,List.nil_append,List.mem_cons,forall_eq_or_imp]
     simp[h1']
    ·rw[List.map_append,List.nodup_append]
     refine⟨hS,by simp,fun a ha b hb hab=>h2 ?_⟩
     obtain⟨y,hy,rfl⟩:=List.mem_map.1 ha
     simp at hb
     rw[List.any_eq_true]
     exact⟨y,hy,by simp[hab,hb]⟩
theorem qce (l:List En):qct l=0 ↔ l.length<=32/\(∀ x ∈ l,okE x=true)/\(l.map (·.1)).Nodup:=by
 unfold qct
 by_cases h:32<l.length
 ·rw[if_pos h];exact⟨fun h=>absurd h (by decide),fun h2=>by omega⟩
 ·rw[if_neg h,ybzh l [] (by simp)]
  simp
  omega
theorem qsn {l m:List En} (h:l.Perm m):qct l=0 ↔ qct m=0:=by
 rw[qce,qce,h.length_eq,(h.map (·.1)).nodup_iff]
 simp only[h.mem_iff]
def qei (S:List En):Prop:=S.Pairwise fun a b=>lexB a.1 b.1=true
theorem qni : ∀ {S T:List En},S.Perm T->qei S->qei T->S=T
 | [],T,h,_,_=>by simpa using h.symm
 | x :: S,[],h,_,_=>by simp at h
 | x :: S,y :: T,h,hS,hT=>by
  unfold qei at hS hT
  rw[List.pairwise_cons]at hS hT
  have hxy:x=y:=by
   have h1:x ∈ y :: T:=h.mem_iff.1 (by simp)
   have h2:y ∈ x :: S:=h.mem_iff.2 (by simp)
   rcases List.mem_cons.1 h1 with h1 | h1
   ·exact h1
   rcases List.mem_cons.1 h2 with h2 | h2
   ·exact h2.symm
   have h3:=qgv (hT.1 x h1) (hS.1 y h2)
   rw[qej]at h3;cases h3
  subst hxy
  rw[qni (S:=S) (T:=T) ((List.perm_cons x).1 h) hS.2 hT.2]
theorem qzv {S:List En} (h:S.Pairwise fun a b=>lexB b.1 a.1=false) (hd:(S.map (·.1)).Nodup):qei S:=by
 induction S with
 | nil=>exact List.Pairwise.nil
 | cons x S ih=>
  rw[List.pairwise_cons]at h
  rw[List.map_cons,List.nodup_cons]at hd
  refine List.pairwise_cons.2 ⟨fun y hy=>?_,ih h.2 hd.2⟩
  cases hl:lexB x.1 y.1 with
  | true=>rfl
  | false=>exact absurd (List.mem_map.2 ⟨y,hy,(qic hl (h.1 y hy)).symm⟩) hd.1
theorem qei.nodup {S:List En} (h:qei S):(S.map (·.1)).Nodup:=by
 unfold qei at h
 rw[List.Nodup,List.pairwise_map]
 exact h.imp fun hab he=>by rw[he,qej]at hab;cases hab
def qjr (n:Nat):Nat->Nat->List Nat
 | 0,_=>[]
 | f+1,at_=>if at_<n then qjr n f (2*at_+1)++at_ :: qjr n f (2*at_+2) else []
theorem qkl (n:Nat):∀ f g at_,n<=at_+f->n<=at_+g->qjr n f at_=qjr n g at_
 | 0,0,_,_,_=>rfl
 | 0,g+1,at_,h,_=>by rw[qjr,qjr,if_neg (by omega)]
 | f+1,0,at_,_,h=>by rw[qjr,qjr,if_neg (by omega)]
 | f+1,g+1,at_,h1,h2=>by
  rw[qjr,qjr]
  by_cases h:at_<n
  ·rw[if_pos h,if_pos h,qkl n f g _ (by omega) (by omega),qkl n f g (2*at_+2) (by omega) (by omega)]
  ·rw[if_neg h,if_neg h]
def ino (n at_:Nat):List Nat:=qjr n n at_
theorem ybcj {n at_:Nat} (h:n<=at_):ino n at_=[]:=by
 unfold ino
 cases n with
 | zero=>rfl
 | succ n=>rw[qjr,if_neg (by omega)]
theorem qwh {n at_:Nat} (h:at_<n):ino n at_=ino n (2*at_+1)++at_ :: ino n (2*at_+2):=by
 cases n with
 | zero=>omega
 | succ n=>
  show qjr (n+1) (n+1) at_=_
  rw[qjr,if_pos h]
  unfold ino
  rw[qkl (n+1) n (n+1) (2*at_+1) (by omega) (by omega),qkl (n+1) n (n+1) (2*at_+2) (by omega) (by omega)]
def inoOk (n:Nat):Bool:=decide (qjr n n 0).Nodup && (qjr n n 0).length == n && (qjr n n 0).all (· < n)
theorem ybhx : (List.range 33).all inoOk=true:=by decide +kernel
theorem quk {n:Nat} (h:n<=32):(ino n 0).Nodup/\(ino n 0).length=n/\∀ m ∈ ino n 0,m<n:=by
 have:=(List.all_eq_true.1 ybhx) n (List.mem_range.2 (by omega))
 unfold inoOk at this
 simp only[Bool.and_eq_true,decide_eq_true_eq,beq_iff_eq,List.all_eq_true]at this
 exact⟨this.1.1,this.1.2,this.2⟩
def putE (D:List Int) (p:Nat × En):List Int:=(over D (16*p.1) (bI p.2.1)).set (16*p.1+14) p.2.2
def layF (D:List Int) (P:List (Nat × En)):List Int:=P.foldl putE D
theorem ybcm (D:List Int) (P Q:List (Nat × En)):layF D (P++Q)=layF (layF D P) Q:=by unfold layF;rw[List.foldl_append]
def rowE (x:En):List Int:=bI x.1++List.replicate (14 - x.1.size) 0++[x.2,0]
def qjj (D:List Int) (q:Nat):List Int:=(D.drop (16*q)).take 16
theorem qor {D E:List Int} {o:Nat} (h:o+E.length<=D.length):(over D o E).length=D.length:=by
 unfold over;rw[List.length_append,List.length_append,List.length_take,List.length_drop];omega
theorem ybuk {D:List Int} {q:Nat} {x:En} (h:16*q+16<=D.length) (hx:x.1.size<=14):(putE D (q,x)).length=D.length:=by
 unfold putE;rw[List.length_set,qor];rw[qtx];show 16*q+x.1.size<=_;omega
theorem ybfu {D:List Int} {q:Nat} {x:En} (h:16*q+16<=D.length) (hx:x.1.size<=14) (j:Nat):(putE D (q,x))[j]? = if j=16*q+14 then some x.2 else if 16*q<=j/\j<16*q+x.1.size then (bI x.1)[j - 16*q]? else D[j]? :=by
 have hb:(bI x.1).length=x.1.size:=qtx _
 unfold putE
 rw[List.getElem?_set]
 by_cases h1:j=16*q+14
 ·rw[if_pos h1.symm,if_pos h1,if_pos]
  rw[qor (by rw[hb];omega)];omega
 ·rw[if_neg (fun e=>h1 e.symm),if_neg h1]
  unfold over
  by_cases h2:j<16*q
  ·rw[if_neg (by omega),List.getElem?_append_left (by rw[List.length_take];omega),List.getElem?_take,if_pos h2]
  ·have e1:(D.take (16*q)).length=16*q:=by rw[List.length_take];omega
   rw[List.getElem?_append_right (by rw[e1];omega),e1]
   by_cases h3:j<16*q+x.1.size
   ·rw[if_pos ⟨by omega,h3⟩,List.getElem?_append_left (by rw[hb];omega)]
   ·rw[if_neg (by omega),List.getElem?_append_right (by rw[hb];omega),List.getElem?_drop,hb]
    congr 1
    omega
theorem qkc (D:List Int) (q i:Nat):(qjj D q)[i]? = if i<16 then D[16*q+i]? else none:=by
 unfold qjj
 rw[List.getElem?_take,List.getElem?_drop]
theorem qnk {D:List Int} {q m:Nat} {x:En} (h:16*q+16<=D.length) (hx:x.1.size<=14) (hm:m ≠ q):qjj (putE D (q,x)) m=qjj D m:=by
 apply List.ext_getElem?
 intro i
 rw[qkc,qkc]
 split
 ·rw[ybfu h hx,if_neg (by omega),if_neg (by omega)]
 ·rfl
theorem qzw {D:List Int} {q:Nat} {x:En} (h:16*q+16<=D.length) (hx:x.1.size<=14) (hz:qjj D q=List.replicate 16 0):qjj (putE D (q,x)) q=rowE x:=by
 have hb:(bI x.1).length=x.1.size:=qtx _
 apply List.ext_getElem?
 intro i
 rw[qkc]
 have hz2:∀ i,i<16->D[16*q+i]? = some 0:=fun i hi=>by
  have:=congrArg (fun l=>l[i]?) hz
  simp only[qkc,if_pos hi]at this
  rw[this,List.getElem?_replicate,if_pos hi]
 unfold rowE
 by_cases hi:i<16
 ·rw[if_pos hi,ybfu h hx]
  by_cases h1:i=14
  ·subst h1
   rw[if_pos rfl,List.getElem?_append_right (by simp[hb];omega)]
   simp[hb,show 14 - (x.1.size+(14 - x.1.size))=0 by omega]
  ·rw[if_neg (by omega)]
   by_cases h2:i<x.1.size
   ·rw[if_pos ⟨by omega,by omega⟩,List.append_assoc,List.getElem?_append_left (by rw[hb];exact h2)]
    congr 1
    omega
   ·rw[if_neg (by omega),hz2 i hi]
    by_cases h3:i<14
    ·rw[List.append_assoc,List.getElem?_append_right (by rw[hb];omega),List.getElem?_append_left (by simp[hb];omega),List.getElem?_replicate,if_pos (by rw[hb];omega)]
    ·rw[List.getElem?_append_right (by simp[hb];omega)]
     have e:i=15:=by omega
     subst e
     simp[hb,show 15 - (x.1.size+(14 - x.1.size))=1 by omega]
 ·rw[if_neg hi,List.getElem?_eq_none]
  simp[hb];omega
theorem qyu {n:Nat}:∀ (P:List (Nat × En)) (D:List Int),D.length=16*n->(∀ p ∈ P,p.1<n/\p.2.1.size<=14)->(P.map (·.1)).Nodup->(∀ p ∈ P,qjj D p.1=List.replicate 16 0) ->
  (layF D P).length=16*n/\(∀ p ∈ P,qjj (layF D P) p.1=rowE p.2)/\(∀ q,q ∉ P.map (·.1)->qjj (layF D P) q=qjj D q)
 | [],D,hD,_,_,_=>⟨hD,by simp,fun q _=>rfl⟩
 | (q,x) :: P,D,hD,hP,hn,hz=>by
  rw[List.map_cons,List.nodup_cons]at hn
  have h1:=hP (q,x) (by simp)
  have hq:16*q+16<=D.length:=by have:=h1.1;simp at this;omega
  have hne:∀ p ∈ P,p.1 ≠ q:=fun p hp e=>hn.1 (List.mem_map.2 ⟨p,hp,e⟩)
  obtain⟨k1,k2,k3⟩:=qyu P (putE D (q,x)) (by rw[ybuk hq h1.2];exact hD) (fun p hp=>hP p (by simp[hp])) hn.2 (fun p hp=>by
   rw[qnk hq h1.2 (hne p hp)];exact hz p (by simp[hp]))
  refine⟨k1,fun p hp=>?_,fun m hm=>?_⟩
  ·rcases List.mem_cons.1 hp with rfl | hp
   ·show qjj (layF (putE D (q,x)) P) q=_
    rw[k3 q hn.1]
    exact qzw hq h1.2 (hz (q,x) (by simp))
   ·exact k2 p hp
  ·rw[List.map_cons,List.mem_cons,not_or]at hm
   show qjj (layF (putE D (q,x)) P) m=_
   rw[k3 m hm.2,qnk hq h1.2 hm.1]
def layS (S:List En):List Int:=layF (List.replicate (16*S.length) 0) ((ino S.length 0).zip S)
def rdN (D:List Int) (q:Nat):ByteArray:=⟨(Lib.trimRightB (qch ((D.drop (16*q)).take 14)).data.toList 0).toArray⟩
def rdE (D:List Int) (q:Nat):En:=(rdN D q,D.getD (16*q+14) 0)
theorem ybqh {n q:Nat} (h:q<n):qjj (List.replicate (16*n) (0:Int)) q=List.replicate 16 0:=by
 unfold qjj
 rw[List.drop_replicate,List.take_replicate]
 congr 1
 omega
theorem qyv {S:List En} (hl:S.length<=32) (hs:∀ x ∈ S,x.1.size<=14):(layS S).length=16*S.length/\∀ p ∈ (ino S.length 0).zip S,qjj (layS S) p.1=rowE p.2:=by
 obtain⟨h1,h2,h3⟩:=quk hl
 have hm:((ino S.length 0).zip S).map (·.1)=ino S.length 0:=by
  rw[List.map_fst_zip];omega
 obtain⟨k1,k2,_⟩:=qyu (n:=S.length) ((ino S.length 0).zip S) (List.replicate (16*S.length) 0) (by simp) (fun p hp=>by
  have hp1:=(List.of_mem_zip hp)
  exact⟨h3 _ hp1.1,hs _ hp1.2⟩) (by rw[hm];exact h1) (fun p hp=>ybqh (h3 _ (List.of_mem_zip hp).1))
 exact⟨k1,k2⟩
theorem yblb (ns:List Int):(qch ns).data.toList=ns.map fun n=>UInt8.ofNat n.toNat:=by
 have key:∀ (l:List Int) (r:ByteArray),(l.foldl (fun r n=>r.push (UInt8.ofNat n.toNat)) r).data.toList=r.data.toList++l.map fun n=>UInt8.ofNat n.toNat:=by
  intro l
  induction l with
  | nil=>intro r;simp
  | cons a l ih=>intro r;rw[List.foldl_cons,ih];simp[ByteArray.push]
 simpa[qch]using key ns ByteArray.empty
theorem ybwv (s:ByteArray):(bI s).map (fun n=>UInt8.ofNat n.toNat)=s.data.toList:=by
 unfold bI
 rw[List.map_map]
 conv=>rhs;rw[<-List.map_id s.data.toList]
 refine List.map_congr_left fun b _=>?_
 simp
theorem ybjr (l:List UInt8) (k:Nat) (h:∀ b ∈ l,b ≠ 0):Lib.trimRightB (l++List.replicate k 0) 0=l:=by
 unfold Lib.trimRightB
 rw[List.reverse_append,List.reverse_replicate,List.dropWhile_append_of_pos (fun a ha=>by rw[List.mem_replicate]at ha;simp[ha.2])]
 have:l.reverse.dropWhile (· == 0)=l.reverse:=by
  cases hl:l.reverse with
  | nil=>rfl
  | cons b r=>
   have hb:b ∈ l:=by rw[<-List.mem_reverse,hl];simp
   have:=h b hb
   rw[List.dropWhile_cons_of_neg (by simpa using this)]
 rw[this,List.reverse_reverse]
theorem qnd {x:En} (h:okE x=true):qjs x.1=true/\1<=x.2/\x.2<=32:=by
 unfold okE at h
 simp only[Bool.and_eq_true,decide_eq_true_eq]at h
 exact⟨h.1.1,h.1.2,h.2⟩
theorem qna {s:ByteArray} (h:qjs s=true):s.size<=14/\∀ b ∈ s.data.toList,b ≠ 0:=by
 unfold qjs at h
 simp only[Bool.and_eq_true,decide_eq_true_eq,Bool.not_eq_true',List.contains_eq_mem,decide_eq_false_iff_not]at h
 exact⟨h.1.1.1.1.2,fun b hb e=>h.1.2 (by rw[<-e];exact hb)⟩
theorem ybzk {D:List Int} {q:Nat} {x:En} (h:qjj D q=rowE x) (hx:okE x=true):rdE D q=x:=by
 obtain⟨h1,h2,h3⟩:=qnd hx
 obtain⟨h4,h5⟩:=qna h1
 have hb:(bI x.1).length=x.1.size:=qtx _
 have e1:(D.drop (16*q)).take 14=bI x.1++List.replicate (14 - x.1.size) 0:=by
  have:(D.drop (16*q)).take 14=(qjj D q).take 14:=by unfold qjj;rw[List.take_take];rfl
  rw[this,h]
  unfold rowE
  rw[List.take_append_of_le_length (by simp[hb];omega),List.take_of_length_le (by simp[hb];omega)]
 have e2:D.getD (16*q+14) 0=x.2:=by
  have:=congrArg (fun l=>l[14]?) h
  simp only[qkc]at this
  rw[if_pos (by omega)]at this
  rw[List.getD_eq_getElem?_getD,this]
  unfold rowE
  rw[List.getElem?_append_right (by simp[hb];omega)]
  simp[hb,show 14 - (x.1.size+(14 - x.1.size))=0 by omega]
 unfold rdE
 rw[e2]
 refine Prod.ext ?_ rfl
 show rdN D q=x.1
 unfold rdN
 rw[yblb,e1,List.map_append,ybwv]
 have e3:(List.replicate (14 - x.1.size) (0:Int)).map (fun n=>UInt8.ofNat n.toNat)=List.replicate (14 - x.1.size) 0:=by simp
 rw[e3,ybjr _ _ h5]
theorem ybul {S:List En} (hl:S.length<=32) (hs:∀ x ∈ S,okE x=true):(ino S.length 0).map (rdE (layS S))=S:=by
 obtain⟨h1,h2,h3⟩:=quk hl
 obtain⟨_,k2⟩:=qyv hl (fun x hx=>(qna (qnd (hs x hx)).1).1)
 refine List.ext_getElem (by simp[h2]) fun i hi hi2=>?_
 rw[List.getElem_map]
 have hi3:i<(ino S.length 0).length:=by simpa using hi
 have hz:((ino S.length 0)[i],S[i]) ∈ (ino S.length 0).zip S:=by
  rw[List.mem_iff_getElem?]
  exact⟨i,by rw[List.getElem?_zip_eq_some];simp[hi3,hi2]⟩
 exact ybzk (k2 _ hz) (hs _ (List.getElem_mem hi2))
theorem ybsz {S:List En} (hl:S.length<=32) (hs:∀ x ∈ S,okE x=true):(layS S).length=16*S.length:=(qyv hl (fun x hx=>(qna (qnd (hs x hx)).1).1)).1
def leE (a b:En):Bool:= !lexB b.1 a.1
def qnr (l:List En):List En:=l.mergeSort leE
theorem qdp (l:List En):(qnr l).Perm l:=List.mergeSort_perm _ _
theorem ybmt (a b c:En) (h1:leE a b=true) (h2:leE b c=true):leE a c=true:=by
 unfold leE at *
 simp only[Bool.not_eq_true']at *
 cases h:lexB c.1 a.1 with
 | false=>rfl
 | true=>
  cases h3:lexB b.1 c.1 with
  | true=>rw[qgv h3 h]at h1;cases h1
  | false=>rw[qic h2 h3]at h;rw[h1]at h;cases h
theorem ybms (a b:En):(leE a b || leE b a)=true:=by
 unfold leE
 cases h:lexB b.1 a.1 with
 | false=>rfl
 | true=>
  cases h2:lexB a.1 b.1 with
  | false=>rfl
  | true=>have:=qgv h h2;rw[qej]at this;cases this
theorem qhp {l:List En} (h:(l.map (·.1)).Nodup):qei (qnr l):=by
 have h1:(qnr l).Pairwise fun a b=>leE a b=true:=List.pairwise_mergeSort ybmt ybms l
 refine qzv (h1.imp fun hab=>by unfold leE at hab;simpa using hab) ?_
 exact ((qdp l).map (·.1)).nodup_iff.2 h
theorem qwx {l T:List En} (hp:T.Perm l) (hT:qei T):T=qnr l:=
 qni (hp.trans (qdp l).symm) hT (qhp ((hp.map (·.1)).nodup_iff.1 hT.nodup))
theorem ybjn {S:List En} (h:qei S):qnr S=S:=(qwx (List.Perm.refl _) h).symm
theorem qsw (l:List En):(qnr l).length=l.length:=(qdp l).length_eq
theorem ybdn {l m:List En} (hp:l.Perm m) (h:(l.map (·.1)).Nodup):qnr l=qnr m:=qwx ((qdp l).trans hp) (qhp h)
theorem qqo {l:List En} (h:qct l=0):(qnr l).length<=32/\(∀ x ∈ qnr l,okE x=true)/\qei (qnr l):=by
 have h1:=(qce l).1 h
 exact⟨by rw[qsw];exact h1.1,fun x hx=>h1.2.1 x ((qdp l).mem_iff.1 hx),qhp h1.2.2⟩
def layD (l:List En):List Int:=layS (qnr l)
theorem qmz {l:List En} (h:qct l=0):(layD l).length=16*l.length:=by
 obtain⟨h1,h2,_⟩:=qqo h
 unfold layD
 rw[ybsz h1 h2,qsw]
theorem ybmr {l m:List En} (hp:l.Perm m) (h:qct l=0):layD l=layD m:=by
 unfold layD;rw[ybdn hp ((qce l).1 h).2.2]
def outD (D:List Int):List En:=(ino (D.length / 16) 0).map (rdE D)
def qcn (D:List Int):Bool:=decide (D.length % 16=0) && decide (D.length<=512) && decide (qct (outD D)=0) && decide (layD (outD D)=D)
theorem qcs (D:List Int):qcn D=true ↔ D.length % 16=0/\D.length<=512/\qct (outD D)=0/\layD (outD D)=D:=by
 unfold qcn;simp only[Bool.and_eq_true,decide_eq_true_eq];constructor <;> (intro h;simp[h])
theorem qqj {l:List En} (h:qct l=0):outD (layD l)=qnr l:=by
 obtain⟨h1,h2,_⟩:=qqo h
 unfold outD
 rw[qmz h,show 16*l.length / 16=l.length by omega,<-qsw l]
 exact ybul h1 h2
theorem ybfg {l:List En} (h:qct l=0):qcn (layD l)=true:=by
 obtain⟨h1,h2,h3⟩:=qqo h
 have h4:=(qce l).1 h
 rw[qcs,qqj h,qmz h]
 refine⟨by omega,by omega,(qsn (qdp l)).2 h,?_⟩
 exact ybmr (qdp l) ((qsn (qdp l)).2 h)
theorem qgw {D:List Int} (h:qcn D=true):qei (outD D)/\qct (outD D)=0/\(outD D).length=D.length / 16/\layD (outD D)=D:=by
 obtain⟨h1,h2,h3,h4⟩:=(qcs D).1 h
 have h5:=(qce _).1 h3
 have h6:=qqj h3
 rw[h4]at h6
 refine⟨by rw[h6];exact qhp h5.2.2,h3,?_,h4⟩
 unfold outD
 rw[List.length_map,(quk (by omega)).2.1]
structure FInv (D : List Int) (n : Nat) (name : ByteArray) (q k : Nat) : Prop where
 seg:∃ A B,ino n 0=A++ino n q++B/\(∀ m ∈ A,lexB (rdE D m).1 name=true)/\(∀ m ∈ B,lexB name (rdE D m).1=true)
 pow:2 ^ k<=q+1
 few:k=0\/2 ^ (k - 1)<=n
theorem FInv.start (D:List Int) (n:Nat) (name:ByteArray):FInv D n name 0 0:=
 ⟨⟨[],[],by simp,by simp,by simp⟩,by simp,Or.inl rfl⟩
section
variable {D : List Int} {n q k : Nat} {name : ByteArray}
theorem FInv.mid (h:FInv D n name q k) (hq:q<n):∃ A B,ino n 0=(A++ino n (2*q+1))++q :: (ino n (2*q+2)++B)/\(∀ m ∈ A,lexB (rdE D m).1 name=true)/\(∀ m ∈ B,lexB name (rdE D m).1=true):=by
 obtain⟨A,B,h1,h2,h3⟩:=h.seg
 exact⟨A,B,by rw[h1,qwh hq];simp,h2,h3⟩
theorem FInv.left (h:FInv D n name q k) (hq:q<n) (hS:qei ((ino n 0).map (rdE D))) (hlt:lexB name (rdE D q).1=true):FInv D n name (2*q+1) (k+1):=by
 obtain⟨A,B,h1,h2,h3⟩:=h.mid hq
 have hp:=h.pow
 refine⟨⟨A,q :: (ino n (2*q+2)++B),by rw[h1],h2,fun m hm=>?_⟩,by rw[Nat.pow_succ];omega,Or.inr (by simp;omega)⟩
 rcases List.mem_cons.1 hm with rfl | hm
 ·exact hlt
 ·unfold qei at hS
  rw[h1,List.map_append,List.pairwise_append,List.map_cons,List.pairwise_cons]at hS
  exact qgv hlt (hS.2.1.1 _ (List.mem_map.2 ⟨m,hm,rfl⟩))
theorem FInv.right (h:FInv D n name q k) (hq:q<n) (hS:qei ((ino n 0).map (rdE D))) (hlt:lexB (rdE D q).1 name=true):FInv D n name (2*q+2) (k+1):=by
 obtain⟨A,B,h1,h2,h3⟩:=h.mid hq
 have hp:=h.pow
 refine⟨⟨A++ino n (2*q+1)++[q],B,by rw[h1];simp,fun m hm=>?_,h3⟩,by rw[Nat.pow_succ];omega,Or.inr (by simp;omega)⟩
 rw[List.mem_append,List.mem_singleton]at hm
 rcases hm with hm | rfl
 ·unfold qei at hS
  rw[h1,List.map_append,List.pairwise_append]at hS
  exact qgv (hS.2.2 _ (List.mem_map.2 ⟨m,hm,rfl⟩) _ (by simp)) hlt
 ·exact hlt
theorem FInv.found (h:FInv D n name q k) (hq:q<n) (he:name=(rdE D q).1):∃ x ∈ (ino n 0).map (rdE D),x.1=name/\x.2=(rdE D q).2:=by
 obtain⟨A,B,h1,_,_⟩:=h.mid hq
 exact⟨rdE D q,List.mem_map.2 ⟨q,by rw[h1];simp,rfl⟩,he.symm,rfl⟩
theorem FInv.looks (h:FInv D n name q k) (hq:q<n):2 ^ k<=n:=by have:=h.pow;omega
theorem FInv.none (h:FInv D n name q k) (hq:n<=q):∀ x ∈ (ino n 0).map (rdE D),x.1 ≠ name:=by
 obtain⟨A,B,h1,h2,h3⟩:=h.seg
 intro x hx he
 obtain⟨m,hm,rfl⟩:=List.mem_map.1 hx
 rw[h1,ybcj hq,List.append_nil,List.mem_append]at hm
 rcases hm with hm | hm
 ·have:=h2 m hm;rw[he,qej]at this;cases this
 ·have:=h3 m hm;rw[he,qej]at this;cases this
end
end Go.Proofs.YtpoglnpjadmbpaaGreatDoor
namespace Go.Proofs.YtpoglnpjadmbpaaGreatDoor
open Go.RowKit Go.Maps
open Go (World.grownBy)
def InZ (x:Int):Prop:= -9223372036854775808<=x/\x<=9223372036854775807
def putZ {α:Type}:List (Int × α)->Int->α->List (Int × α)
 | [],k,v=>[(k,v)]
 | y :: r,k,v=>if k<y.1 then (k,v) :: y :: r else if k=y.1 then (k,v) :: r else y :: putZ r k v
def getZ {α:Type}:List (Int × α)->Int->Option α
 | [],_=>none
 | y :: r,k=>if y.1=k then some y.2 else getZ r k
def delZ {α:Type} (l:List (Int × α)) (k:Int):List (Int × α):=l.filter fun y=> !decide (y.1=k)
def qcp {α:Type} (l:List (Int × α)):Prop:=l.Pairwise fun a b=>a.1<b.1
def hasZ {α:Type} (l:List (Int × α)) (k:Int):Bool:=(getZ l k).isSome
theorem qcp.tail {α:Type} {y:Int × α} {r:List (Int × α)} (h:qcp (y :: r)):qcp r:=(List.pairwise_cons.1 h).2
theorem qcp.head {α:Type} {y:Int × α} {r:List (Int × α)} (h:qcp (y :: r)):∀ z ∈ r,y.1<z.1:=(List.pairwise_cons.1 h).1
theorem qde {α:Type} {k:Int} {v:α}:∀ {l:List (Int × α)} {z:Int × α},z ∈ putZ l k v->z=(k,v)\/z ∈ l
 | [],z,h=>by simpa[putZ]using h
 | y :: r,z,h=>by
  unfold putZ at h
  split at h
  ·rcases List.mem_cons.1 h with h | h
   ·exact Or.inl h
   ·exact Or.inr h
  ·split at h
   ·rcases List.mem_cons.1 h with h | h
    ·exact Or.inl h
    ·exact Or.inr (List.mem_cons_of_mem _ h)
   ·rcases List.mem_cons.1 h with h | h
    ·exact Or.inr (h ▸ List.mem_cons_self)
    ·rcases qde h with h | h
     ·exact Or.inl h
     ·exact Or.inr (List.mem_cons_of_mem _ h)
theorem qex {α:Type} (k:Int) (v:α):∀ {l:List (Int × α)},qcp l->qcp (putZ l k v)
 | [],_=>List.pairwise_cons.2 ⟨by simp,List.Pairwise.nil⟩
 | y :: r,h=>by
  unfold putZ
  split
  ·rename_i hk
   refine List.pairwise_cons.2 ⟨fun z hz=>?_,h⟩
   rcases List.mem_cons.1 hz with rfl | hz
   ·exact hk
   ·have:=h.head z hz
    show k<z.1
    omega
  ·split
   ·rename_i hk
    exact List.pairwise_cons.2 ⟨fun z hz=>by have:=h.head z hz;show k<z.1;omega,h.tail⟩
   ·rename_i h1 h2
    refine List.pairwise_cons.2 ⟨fun z hz=>?_,qex k v h.tail⟩
    rcases qde hz with rfl | hz
    ·show y.1<k
     omega
    ·exact h.head z hz
theorem qxx {α:Type} (k:Int) {l:List (Int × α)} (h:qcp l):qcp (delZ l k):=h.filter _
theorem ybei {α:Type} {k:Int} {l:List (Int × α)} {z:Int × α} (h:z ∈ delZ l k):z ∈ l:=(List.mem_filter.1 h).1
theorem qdo {α:Type} (k:Int) (v:α):∀ (l:List (Int × α)),(putZ l k v).length<=l.length+1
 | []=>by simp[putZ]
 | y :: r=>by
  unfold putZ
  have:=qdo k v r
  split
  ·simp
  ·split
   ·simp
   ·simp only[List.length_cons];omega
theorem qmq {α:Type} {k:Int} {v:α}:∀ {l:List (Int × α)},getZ l k=some v->(k,v) ∈ l
 | [],h=>by simp[getZ]at h
 | y :: r,h=>by
  unfold getZ at h
  split at h
  ·rename_i e
   cases h
   subst e
   exact List.mem_cons_self
  ·exact List.mem_cons_of_mem _ (qmq h)
theorem qdi {α:Type} {k:Int} {v:α}:∀ {l:List (Int × α)},qcp l->(k,v) ∈ l->getZ l k=some v
 | y :: r,hr,h=>by
  unfold getZ
  rcases List.mem_cons.1 h with h | h
  ·subst h
   rw[if_pos rfl]
  ·have:=hr.head _ h
   rw[if_neg (by intro e;simp only[e]at this;omega)]
   exact qdi hr.tail h
theorem qgj {α:Type} (k:Int) (v:α):∀ (l:List (Int × α)),getZ (putZ l k v) k=some v
 | []=>by simp[putZ,getZ]
 | y :: r=>by
  unfold putZ
  split
  ·simp[getZ]
  ·split
   ·simp[getZ]
   ·rename_i h1 h2
    rw[getZ,if_neg (fun e=>h2 e.symm)]
    exact qgj k v r
theorem qcg {α:Type} {k j:Int} (v:α) (hj:j ≠ k):∀ (l:List (Int × α)),getZ (putZ l k v) j=getZ l j
 | []=>by simp[putZ,getZ,Ne.symm hj]
 | y :: r=>by
  unfold putZ
  split
  ·simp[getZ,Ne.symm hj]
  ·split
   ·rename_i h1 h2
    rw[getZ,getZ,if_neg (Ne.symm hj),if_neg (by omega)]
   ·rw[getZ,getZ,qcg v hj r]
def qxg (v:Value):Option (DataW Value × List MemPlace):=some (.held v,[])
def encZ (x:Int × Value):Lit × DataW Value:=(.int .i64 x.1,.held x.2)
def MapL (P:Program) (K:TypeId) (w:World) (b:Nat) (l:List (Int × Value)):Prop:=
 w.ownsMap P K qxg b l.length (.map (l.map encZ))/\qcp l/\(∀ x ∈ l,InZ x.1)
section
variable {P : Program} {K T E : TypeId} {w w' : World} {b : Nat} {l : List (Int × Value)}
theorem wf_z {x:Int} (h:InZ x):(Lit.int .i64 x).wf=true:=WalkArith.wf_i64 ⟨h.1,h.2⟩
theorem ybsu (hK:P.underlying K=some (.int .i64)) {x:Int} (h:InZ x):keyOf P K (.int .i64 x)=some (.int .i64 x):=keyOf_int_mk hK (wf_z h)
theorem MapL.lt (h:MapL P K w b l):b<w.heap.size:=h.1.lt
theorem MapL.made (w:World):MapL P K (w.alloc (.map #[] 0)) w.heap.size []:=⟨World.ownsMap_made _ _ _ _,List.Pairwise.nil,by simp⟩
theorem MapL.of_block (h:MapL P K w b l) (hb:w'.heap[b]? = w.heap[b]?):MapL P K w' b l:=by
 obtain⟨⟨es,clock,h1,h2⟩,h3⟩:=h
 exact⟨⟨es,clock,hb.trans h1,h2⟩,h3⟩
theorem ybga (x k:Int):(Lit.int .i64 x).sameKey (.int .i64 k)=decide (x=k):=by simp[Lit.sameKey]
theorem qrj (l:List (Int × Value)) (k:Int):(l.map encZ).filter (fun p=> !p.1.sameKey (.int .i64 k))=(delZ l k).map encZ:=by
 unfold delZ
 rw[List.filter_map]
 congr 1
 apply List.filter_congr
 intro x _
 show (!(Lit.int .i64 x.1).sameKey (.int .i64 k))=_
 rw[ybga]
theorem qru (k:Int) (v:Value):∀ {l:List (Int × Value)},qcp l->DataW.insert (encZ (k,v)) ((delZ l k).map encZ)=(putZ l k v).map encZ
 | [],_=>rfl
 | y :: r,h=>by
  have ih:=qru k v h.tail
  have hall:∀ z ∈ r,y.1<z.1:=h.head
  unfold delZ at *
  rw[List.filter_cons,putZ]
  by_cases h1:k<y.1
  ·rw[if_pos h1,if_pos (by simp;omega)]
   have e:r.filter (fun y=> !decide (y.1=k))=r:=by
    apply List.filter_eq_self.2
    intro z hz
    have:=hall z hz
    simp;omega
   rw[e,List.map_cons,DataW.insert,if_pos (by show decide (k<y.1)=true;simpa using h1)]
   rfl
  ·rw[if_neg h1]
   by_cases h2:k=y.1
   ·rw[if_pos h2,if_neg (by simp[h2])]
    have e:r.filter (fun y=> !decide (y.1=k))=r:=by
     apply List.filter_eq_self.2
     intro z hz
     have:=hall z hz
     simp;omega
    rw[e]
    cases r with
    | nil=>rfl
    | cons z r=>
     have:=hall z List.mem_cons_self
     rw[List.map_cons,DataW.insert,if_pos (by show decide (k<z.1)=true;simp;omega)]
     rfl
   ·rw[if_neg h2,if_pos (by simp;omega),List.map_cons,DataW.insert,if_neg (by show ¬ decide (k<y.1)=true;simpa using h1),ih]
    rfl
theorem qvn (k:Int) (zd:DataW Value):∀ (l:List (Int × Value)),(DataW.map (l.map encZ)).atKey (.int .i64 k) zd=((getZ l k).map DataW.held).getD zd
 | []=>rfl
 | y :: r=>by
  have ih:=qvn k zd r
  unfold DataW.atKey at ih ⊢
  simp only[List.map_cons,List.find?_cons]at ih ⊢
  have e:(encZ y).1.sameKey (.int .i64 k)=decide (y.1=k):=ybga _ _
  rw[e,getZ]
  by_cases hk:y.1=k
  ·rw[if_pos hk,decide_eq_true hk];rfl
  ·rw[if_neg hk,decide_eq_false hk]
   exact ih
theorem qwd (k:Int):∀ (l:List (Int × Value)),Maps.has (DataW.map (l.map encZ)) (.int .i64 k)=hasZ l k
 | []=>rfl
 | y :: r=>by
  have ih:=qwd k r
  unfold hasZ at ih ⊢
  rw[has_eq]at ih ⊢
  simp only[List.map_cons,List.any_cons]
  rw[ih]
  show ((Lit.int .i64 y.1).sameKey (.int .i64 k) || _)=_
  rw[ybga,getZ]
  by_cases hk:y.1=k
  ·rw[if_pos hk,decide_eq_true hk];rfl
  ·rw[if_neg hk,decide_eq_false hk];rfl
theorem ybaq {v:Value} {x:Value} {ps:List MemPlace} (h:qxg v=some (.held x,ps)):v=x:=by
 unfold qxg at h
 simp only[Option.some.injEq,Prod.mk.injEq,DataW.held.injEq]at h
 exact h.1
theorem MapL.look (h:MapL P K w b l) (hK:P.underlying K=some (.int .i64)) (hT:P.underlying T=some (.map K E)) {z:Value} (hz:(zeroValue E).run P w=.ok z w) {k:Int} (hk:InZ k):
  (Instr.lookup T (.map (some b)) (.int .i64 k) false).run P w=.ok ((getZ l k).getD z) w:=by
 obtain⟨v,ps,hr,hv⟩:=h.1.lookup (int_keyed hK) hT hz (zd:=.held z) (zp:=[]) rfl (ybsu hK hk)
 rw[qvn]at hv
 have e:((getZ l k).map DataW.held).getD (.held z)=.held ((getZ l k).getD z):=by cases getZ l k <;> rfl
 rw[e]at hv
 rw[hr,ybaq hv]
theorem MapL.look_ok (h:MapL P K w b l) (hK:P.underlying K=some (.int .i64)) (hT:P.underlying T=some (.map K E)) {z:Value} (hz:(zeroValue E).run P w=.ok z w) {k:Int} (hk:InZ k):
  (Instr.lookup T (.map (some b)) (.int .i64 k) true).run P w=.ok (.tuple #[(getZ l k).getD z,.bool (hasZ l k)]) w:=by
 obtain⟨v,ps,hr,hv⟩:=h.1.look_ok (int_keyed hK) hT hz (zd:=.held z) (zp:=[]) rfl (ybsu hK hk)
 rw[qvn]at hv
 have e:((getZ l k).map DataW.held).getD (.held z)=.held ((getZ l k).getD z):=by cases getZ l k <;> rfl
 rw[e]at hv
 rw[hr,ybaq hv,qwd]
theorem MapL.len (h:MapL P K w b l) (hT:P.underlying T=some (.map K E)) (ty:TypeId):(Builtin.len_ #[T] ty #[.map (some b)]).run P w=.ok (.int .i64 (l.length:Int)) w:=by
 rw[h.1.len hT ty]
 simp[Maps.size]
theorem MapL.shrink {n:Nat} (h:w.ownsMap P K qxg b n (.map (l.map encZ))):w.ownsMap P K qxg b l.length (.map (l.map encZ)):=by
 obtain⟨es,clock,hb,F,hs,hD⟩:=h
 refine⟨es,clock,hb,F,?_,hD⟩
 have:l.length=es.size:=by
  have:=congrArg Maps.size hD
  simpa[Maps.size,length_sorted]using this
 omega
theorem MapL.store (h:MapL P K w b l) (hK:P.underlying K=some (.int .i64)) (hT:P.underlying T=some (.map K E)) (hn:l.length<1000000) {k:Int} (hk:InZ k) (v:Value):
  ∃ w',(Instr.mapUpdate T (.map (some b)) (.int .i64 k) v).run P w=.ok () w'/\MapL P K w' b (putZ l k v)/\w.mapTurned w' b:=by
 obtain⟨w',hr,ho,ht⟩:=h.1.store (int_keyed hK) hT (by unfold maxLen;omega) (ybsu hK hk) (d:=.held v) (ps:=[]) (val:=v) rfl
 refine⟨w',hr,⟨MapL.shrink (n:=l.length+1) ?_,qex k v h.2.1,fun x hx=>?_⟩,ht⟩
 ·have e:(DataW.map (l.map encZ)).put (.int .i64 k) (.held v)=.map ((putZ l k v).map encZ):=by
   show DataW.map (DataW.insert (encZ (k,v)) ((l.map encZ).filter fun p=> !p.1.sameKey (.int .i64 k)))=_
   rw[qrj,qru k v h.2.1]
  rw[e]at ho
  exact ho
 ·rcases qde hx with rfl | hx
  ·exact hk
  ·exact h.2.2 x hx
theorem MapL.drop (h:MapL P K w b l) (hK:P.underlying K=some (.int .i64)) (hT:P.underlying T=some (.map K E)) {k:Int} (hk:InZ k) (ty:TypeId):
  ∃ w',(Builtin.delete_ #[T,K] ty #[.map (some b),.int .i64 k]).run P w=.ok (.tuple #[]) w'/\MapL P K w' b (delZ l k)/\w.mapTurned w' b:=by
 obtain⟨w',hr,ho,ht⟩:=h.1.drop (int_keyed hK) hT (ybsu hK hk) ty
 refine⟨w',hr,⟨MapL.shrink (n:=l.length) ?_,qxx k h.2.1,fun x hx=>h.2.2 x (ybei hx)⟩,ht⟩
 have e:(DataW.map (l.map encZ)).del (.int .i64 k)=.map ((delZ l k).map encZ):=by
  show DataW.map ((l.map encZ).filter fun p=> !p.1.sameKey (.int .i64 k))=_
  rw[qrj]
 rw[e]at ho
 exact ho
def qdr (P:Program) (K:TypeId) (w:World) (b r:Nat) (l done:List (Int × Value)) (cnt:Nat):Prop:=
 qcp l/\(∀ x ∈ l,InZ x.1)/\(done.map (·.1)).Nodup/\(∀ x ∈ done,x ∈ l)/\∃ left,w.ranges P K qxg b r l.length (.map (l.map encZ)) left cnt/\∀ x,InZ x->left (.int .i64 x)=(hasZ l x && !(done.map (·.1)).contains x)
theorem qdr.map {r:Nat} {done:List (Int × Value)} {cnt:Nat} (h:qdr P K w b r l done cnt):MapL P K w b l:=by
 obtain⟨h1,h2,_,_,left,h3,_⟩:=h
 exact⟨h3.owns,h1,h2⟩
theorem qdr.ne {r:Nat} {done:List (Int × Value)} {cnt:Nat} (h:qdr P K w b r l done cnt):r ≠ b:=by
 obtain⟨h1,h2,_,_,left,h3,_⟩:=h
 exact h3.ne
theorem qdr.lt {r:Nat} {done:List (Int × Value)} {cnt:Nat} (h:qdr P K w b r l done cnt):r<w.heap.size:=by
 obtain⟨h1,h2,_,_,left,h3,_⟩:=h
 exact h3.lt
theorem qdr.left_eq {r:Nat} {done:List (Int × Value)} {cnt:Nat} (h:qdr P K w b r l done cnt):w.rangeLeft b r=cnt:=by
 obtain⟨h1,h2,_,_,left,h3,_⟩:=h
 exact h3.left_eq
theorem qdr.of_block {r:Nat} {done:List (Int × Value)} {cnt:Nat} (h:qdr P K w b r l done cnt) (hb:w'.heap[b]? = w.heap[b]?) (hr:w'.heap[r]? = w.heap[r]?):qdr P K w' b r l done cnt:=by
 obtain⟨h1,h2,h3,h4,left,⟨es,clock,since,seen,c0,q1,q2,q3,q4,q5,q6⟩,h5⟩:=h
 exact⟨h1,h2,h3,h4,left,⟨es,clock,since,seen,c0,hb.trans q1,q2,q3,q4,hr.trans q5,q6⟩,h5⟩
theorem qnb : ∀ {xs ys:List Int},xs.Nodup->xs ⊆ ys->xs.length<=ys.length
 | [],_,_,_=>Nat.zero_le _
 | x :: xs,ys,h,hs=>by
  obtain⟨h1,h2⟩:=List.nodup_cons.1 h
  have hx:x ∈ ys:=hs List.mem_cons_self
  have ih:=qnb (ys:=ys.erase x) h2 (fun z hz=>(List.mem_erase_of_ne (fun e:z=x=>h1 (e ▸ hz))).2 (hs (List.mem_cons_of_mem _ hz)))
  rw[List.length_erase_of_mem hx]at ih
  have:0<ys.length:=List.length_pos_of_mem hx
  simp only[List.length_cons]
  omega
theorem ybim {l done:List (Int × Value)} (h1:qcp l) (h3:(done.map (·.1)).Nodup) (h4:∀ x ∈ done,x ∈ l) (h5:∀ x ∈ l,x.1 ∈ done.map (·.1)):done.Perm l:=by
 have n1:done.Nodup:=List.Pairwise.of_map _ (fun a b hne e=>hne (by rw[e])) h3
 have n2:l.Nodup:=h1.imp fun h e=>by rw[e]at h;omega
 refine (List.perm_ext_iff_of_nodup n1 n2).2 fun a=>⟨h4 a,fun ha=>?_⟩
 obtain⟨c,hc,e⟩:=List.mem_map.1 (h5 a ha)
 have hcl:=h4 c hc
 have e1:=qdi h1 (k:=a.1) (v:=a.2) ha
 have e2:=qdi h1 (k:=c.1) (v:=c.2) hcl
 rw[e,e1]at e2
 have e3:a.2=c.2:=Option.some.inj e2
 have:c=a:=Prod.ext e e3.symm
 exact this ▸ hc
end
section
variable {P : Program} (w : World) {ops : Array Oper} {rest : List Oper} {o : Oper} {a : Act} {Q : Exit -> Act -> World -> Prop}
theorem qfq (hg:o.guard=none) (m:Operand) (t:TypeId) (hop:o.op=Op.range t m) (K E:TypeId) (hK0:P.underlying K=some (.int .i64)) (ht:P.underlying t=some (.map K E)) (b:Nat) (l:List (Int × Value))
  (hm:a.eval m=.map (some b)) (h:MapL P K w b l)
  (hK:∀ w',qdr P K w' b w.heap.size l [] l.length->w.grownBy w' none->w'.heap.size=w.heap.size+1->wpList P ops Q rest (a.put o.dst (.pointer (some ⟨w.heap.size,0,none⟩))) w'):
  wpList P ops Q (o :: rest) a w:=by
 refine wpList_range_own w hg m t hop K E (int_keyed hK0) ht qxg b l.length (.map (l.map encZ)) hm h.1 fun w' hr hgr hs=>hK w' ⟨h.2.1,h.2.2,by simp,by simp,Maps.has (DataW.map (l.map encZ)),?_,fun x _=>?_⟩ hgr hs
 ·have e:Maps.size (DataW.map (l.map encZ))=l.length:=by simp[Maps.size]
  rw[e]at hr
  exact hr
 ·rw[qwd];simp
theorem qgn (hg:o.guard=none) (it:Operand) (hop:o.op=Op.next it false) (K:TypeId) (hK0:P.underlying K=some (.int .i64)) (b r:Nat) (l done:List (Int × Value)) (cnt:Nat)
  (hit:a.eval it=.pointer (some ⟨r,0,none⟩)) (h:qdr P K w b r l done cnt)
  (hDone:done.Perm l->wpList P ops Q rest (a.put o.dst (.tuple #[.bool false])) w)
  (hMore:∀ (x:Int) (c:Value) (w':World) (cnt':Nat),InZ x->(x,c) ∈ l->x ∉ done.map (·.1)->done.length<l.length->qdr P K w' b r l (done++[(x,c)]) cnt'->cnt'<cnt ->
   w.grownBy w' (some r)->w'.heap.size=w.heap.size->(Instr.entry (.pointer (some ⟨r,0,none⟩))).run P w'=.ok (.tuple #[.int .i64 x,c]) w'->wpList P ops Q rest (a.put o.dst (.tuple #[.bool true,.int .i64 x,c])) w'):
  wpList P ops Q (o :: rest) a w:=by
 obtain⟨h1,h2,h3,h4,left,h5,h6⟩:=h
 refine wpList_next_ranges (α:=Int) (β:=Value) w hg it hop K (int_keyed hK0) qxg (Value.int .i64) id (fun key kl hk=>by obtain⟨x,rfl,_⟩:=Maps.keyOf_int_inv hK0 hk;exact⟨x,rfl⟩) (fun v _ _=>⟨v,rfl⟩) b r l.length _ left cnt hit h5 (fun _ hl=>hDone ?_) ?_
 ·refine ybim h1 h3 h4 fun x hx=>?_
  have e:=hl (.int .i64 x.1)
  rw[h6 x.1 (h2 x hx)]at e
  have hg:hasZ l x.1=true:=by unfold hasZ;rw[qdi h1 (k:=x.1) (v:=x.2) hx];rfl
  rw[hg]at e
  simpa using e
 ·intro x c kl y w' cnt' hkey hlk hv hat hrg hlt hgr hsz hen
  obtain⟨x',ex,rfl,hwx⟩:=Maps.keyOf_int_inv hK0 hkey
  cases ex
  have hx:InZ x:=by
   simp only[Lit.wf,Bool.and_eq_true,decide_eq_true_eq]at hwx
   have e1:IntKind.i64.min = -9223372036854775808:=rfl
   have e2:IntKind.i64.max=9223372036854775807:=rfl
   rw[e1,e2]at hwx
   exact hwx
  have hl:=h6 x hx
  rw[hlk]at hl
  have hl':hasZ l x=true/\x ∉ done.map (·.1):=by
   have:=hl.symm
   simp only[Bool.and_eq_true,Bool.not_eq_true',List.contains_eq_mem,decide_eq_false_iff_not]at this
   exact this
  obtain⟨v,hgv⟩:∃ v,getZ l x=some v:=Option.isSome_iff_exists.1 hl'.1
  have hc:v=c:=by
   have:=hat (.held c)
   rw[qvn,hgv]at this
   unfold qxg at hv
   cases hv
   simpa using this
  subst hc
  have hmem:=qmq hgv
  have hlen:done.length<l.length:=by
   have hsub:(done.map (·.1)++[x]).Nodup:=List.nodup_append.2 ⟨h3,by simp,fun a ha b hb e=>hl'.2 (by simp at hb;rw[<-hb,<-e];exact ha)⟩
   have hss:(done.map (·.1)++[x]) ⊆ l.map (·.1):=fun z hz=>by
    rcases List.mem_append.1 hz with hz | hz
    ·obtain⟨y,hy,rfl⟩:=List.mem_map.1 hz
     exact List.mem_map.2 ⟨y,h4 y hy,rfl⟩
    ·simp at hz
     subst hz
     exact List.mem_map.2 ⟨_,hmem,rfl⟩
   have:=qnb hsub hss
   simp at this
   omega
  refine hMore x v w' cnt' hx hmem hl'.2 hlen ⟨h1,h2,?_,?_,_,hrg,fun z hz=>?_⟩ hlt hgr hsz hen
  ·rw[List.map_append]
   exact List.nodup_append.2 ⟨h3,by simp,fun a ha b hb e=>hl'.2 (by simp at hb;rw[<-hb,<-e];exact ha)⟩
  ·intro q hq
   rcases List.mem_append.1 hq with hq | hq
   ·exact h4 q hq
   ·simp at hq
    subst hq
    exact hmem
  ·show (left (.int .i64 z) && !(Lit.int .i64 z).sameKey (.int .i64 x))=_
   rw[h6 z hz,ybga]
   by_cases hzx:z=x
   ·subst hzx
    simp
   ·have:((done++[(x,v)]).map (·.1)).contains z=(done.map (·.1)).contains z:=by simp[hzx]
    rw[this,decide_eq_false hzx]
    simp
theorem qhv (hg:o.guard=none) (m x v:Operand) (t:TypeId) (hop:o.op=Op.mapUpdate t m x v)
  (K E:TypeId) (hK0:P.underlying K=some (.int .i64)) (ht:P.underlying t=some (.map K E)) (b:Nat) (l:List (Int × Value)) (k:Int) (val:Value)
  (hm:a.eval m=.map (some b)) (h:MapL P K w b l) (hn:l.length<1000000) (hx:a.eval x=.int .i64 k) (hv:a.eval v=val) (hk:InZ k)
  (hK:∀ w',MapL P K w' b (putZ l k val)->w.mapTurned w' b->wpList P ops Q rest (a.put o.dst undef) w'):
  wpList P ops Q (o :: rest) a w:=by
 refine wpList_plain hg fun K' hK'=>?_
 obtain⟨w',hrun,r1,r2⟩:=h.store hK0 ht hn hk val
 unfold Oper.wp
 simp[execOp,hop,hm,hx,hv,hrun,Result.andThen]
 exact hK' _ _ (hK w' r1 r2)
theorem qtf (hg:o.guard=none) (m x:Operand) (t K:TypeId) (hop:o.op=Op.call { callee:=Callee.builtin Builtin.delete,args:=#[m,x],argTypes:=#[t,K] })
  (E:TypeId) (hK0:P.underlying K=some (.int .i64)) (ht:P.underlying t=some (.map K E)) (b:Nat) (l:List (Int × Value)) (k:Int)
  (hm:a.eval m=.map (some b)) (h:MapL P K w b l) (hx:a.eval x=.int .i64 k) (hk:InZ k)
  (hK:∀ w',MapL P K w' b (delZ l k)->w.mapTurned w' b->wpList P ops Q rest (a.put o.dst (.tuple #[])) w'):
  wpList P ops Q (o :: rest) a w:=by
 refine wpList_plain hg fun K' hK'=>?_
 obtain⟨w',hrun,r1,r2⟩:=h.drop hK0 ht hk o.type
 unfold Oper.wp
 simp[execOp,hop,resolve,invoke,builtin,hm,hx,hrun,Result.andThen]
 exact hK' _ _ (hK w' r1 r2)
end
end Go.Proofs.YtpoglnpjadmbpaaGreatDoor
