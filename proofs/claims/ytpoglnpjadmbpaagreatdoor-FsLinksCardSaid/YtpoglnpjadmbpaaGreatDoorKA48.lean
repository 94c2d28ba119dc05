/- Part of the proofs of FsLinks: the texts LnkR, LnkT, LnkLaw. -/
import Derived.Test.YtpoglnpjadmbpaaGreatDoorKA47
set_option maxHeartbeats 16000000
set_option maxRecDepth 100000
namespace Go.Proofs.YtpoglnpjadmbpaaGreatDoor
open Go.RowKit
def bK (k:Nat):Nat:=if k<5 then 54 else 55
def pmB (b m K:Nat):List Int:=(List.range m).map (fun i=>((b+i:Nat):Int))++List.replicate (K - m) 0
section
variable {b m K : Nat}
theorem qln (h:m<=K):(pmB b m K).length=K:=by unfold pmB;simp;omega
theorem ybdc {j:Nat}:(pmB b m K).getD j 0=if j<m then ((b+j:Nat):Int) else 0:=by
 unfold pmB
 by_cases h:j<m
 ·rw[if_pos h,List.getD_eq_getElem?_getD,List.getElem?_append_left (by simpa using h),List.getElem?_map,List.getElem?_range h];rfl
 ·rw[if_neg h,List.getD_eq_getElem?_getD,List.getElem?_append_right (by simp;omega),List.getElem?_replicate]
  split <;> rfl
theorem ybzb {x:Int} (h:x ∈ pmB b m K):x=0\/∃ i,i<m/\x=((b+i:Nat):Int):=by
 unfold pmB at h
 rcases List.mem_append.1 h with h | h
 ·obtain⟨i,hi,rfl⟩:=List.mem_map.1 h
  exact Or.inr ⟨i,List.mem_range.1 hi,rfl⟩
 ·exact Or.inl (List.eq_of_mem_replicate h)
theorem ybzc (h:m<K):(pmB b m K).set m ((b+m:Nat):Int)=pmB b (m+1) K:=by
 apply List.ext_getElem?
 intro j
 by_cases hj:j<K
 ·have h1:(pmB b m K)[j]? = some (if j<m then ((b+j:Nat):Int) else 0):=by
   rw[<-ybdc (b:=b) (m:=m) (K:=K) (j:=j),List.getD_eq_getElem?_getD,List.getElem?_eq_getElem (by rw[qln (by omega)];exact hj)];rfl
  have h2:(pmB b (m+1) K)[j]? = some (if j<m+1 then ((b+j:Nat):Int) else 0):=by
   rw[<-ybdc (b:=b) (m:=m+1) (K:=K) (j:=j),List.getD_eq_getElem?_getD,List.getElem?_eq_getElem (by rw[qln (by omega)];exact hj)];rfl
  rw[h2,List.getElem?_set]
  by_cases e:m=j
  ·subst e
   rw[if_pos rfl,if_pos (by rw[qln (by omega)];exact hj),if_pos (by omega)]
  ·rw[if_neg e,h1]
   by_cases hjm:j<m
   ·rw[if_pos hjm,if_pos (by omega)]
   ·rw[if_neg hjm,if_neg (by omega)]
 ·rw[List.getElem?_eq_none (by rw[List.length_set,qln (by omega)];omega),List.getElem?_eq_none (by rw[qln (by omega)];omega)]
end
theorem ybiy : ∀ b,b<56->54<=b->∀ n,n<5->qca (pmB b n n)=0:=by
 intro b h1 h2 n hn
 have hb:b=54\/b=55:=by omega
 have hn2:n=0\/n=1\/n=2\/n=3\/n=4:=by omega
 rcases hb with rfl | rfl <;> rcases hn2 with rfl | rfl | rfl | rfl | rfl <;> decide
theorem ybqr (k:Nat):54<=bK k/\bK k<56:=by unfold bK;split <;> omega
def Nw (k l L:Nat):Pn:=Nk l (pmB (bK k) (blkN (L:Int)) (blkN (L:Int))) L
theorem qty {L:Nat} (h:L<=200):blkN (L:Int)<=4:=by unfold blkN qcc;split <;> omega
theorem qqi (k l L:Nat) (hl:0<l/\l<=8) (hL:L<=200):qdt (Nw k l L)=0/\qco (qbf (Nw k l L)):=by
 have hb:=ybqr k
 have hP:=ybiy (bK k) hb.2 hb.1 (blkN (L:Int)) (by have:=qty hL;omega)
 have hr:qdt (Nw k l L)=0:=by
  show qan 1 420 0 0 (L:Int) (l:Int) 0 (pmB (bK k) (blkN (L:Int)) (blkN (L:Int)))=0
  unfold qan
  rw[if_neg (by decide),if_neg (by omega),if_neg (by omega),if_neg (by decide),if_neg (by rw[hP];decide),if_neg (by rw[qln (Nat.le_refl _),ybwx];simp)]
 refine⟨hr,fun y hy=>?_⟩
 have hy2:y ∈ qgz 1 420 0 0 (L:Int) (l:Int) 0 (pmB (bK k) (blkN (L:Int)) (blkN (L:Int))):=hy
 unfold qgz at hy2
 rw[if_neg (by decide)]at hy2
 rcases List.mem_append.1 hy2 with hy2 | hy2
 ·rcases List.mem_append.1 hy2 with hy2 | hy2
  ·simp only[List.mem_cons,List.not_mem_nil,or_false]at hy2
   omega
  ·exact qsg hP y hy2
 ·have:=List.eq_of_mem_replicate hy2;omega
theorem ybwj (k l L:Nat) (hL:L<=200):qgd (Nw k l L).P 96:=fun x hx=>by
 have h4:=qty hL
 have hb:=ybqr k
 rcases ybzb hx with rfl | ⟨i,hi,rfl⟩ <;> omega
theorem ybwi (k l L:Nat):(Nw k l L).P.length=blkN (L:Int):=qln (Nat.le_refl _)
def foW (k:Nat):Nat->Fo
 | 0=>foL k
 | j+1=>useF (foW k j) (bK k+j)
def putW (b:Nat) (Dt:List Int):Nat->List (Int × List Int)
 | 0=>[]
 | j+1=>putZ (putW b Dt j) ((b+j:Nat):Int) (qfb (List.replicate 64 0) Dt 0 j 64)
theorem ybca (k:Nat):∀ j,∃ S,foW k j=hasF (qay 16) S
 | 0=>qoj k
 | j+1=>by
  obtain⟨S,e⟩:=ybca k j
  exact⟨_,by show hasF (foW k j) _=_;rw[e,qcy]⟩
theorem yblp : ((List.range 4).all fun j=>qto (foW 1 j) 96 == some (54+j))=true:=by kernel_rfl
theorem yblq : ((List.range 4).all fun j=>qto (foW 5 j) 96 == some (55+j))=true:=by kernel_rfl
theorem ybln {k:Nat} (h1:1<=k) (h2:k<5):∀ j,foW k j=foW 1 j
 | 0=>by
  show foL k=foL 1
  unfold foL
  rw[if_neg (by omega),if_pos h2];rfl
 | j+1=>by
  show useF (foW k j) (bK k+j)=useF (foW 1 j) (bK 1+j)
  rw[ybln h1 h2 j]
  unfold bK
  rw[if_pos h2];rfl
theorem yblo {k:Nat} (h2:5<=k):∀ j,foW k j=foW 5 j
 | 0=>by
  show foL k=foL 5
  unfold foL
  rw[if_neg (by omega),if_neg (by omega)];rfl
 | j+1=>by
  show useF (foW k j) (bK k+j)=useF (foW 5 j) (bK 5+j)
  rw[yblo h2 j]
  unfold bK
  rw[if_neg (by omega)];rfl
theorem ybse {k:Nat} (h1:1<=k) (j:Nat) (hj:j<4):qto (foW k j) 96=some (bK k+j):=by
 by_cases h:k<5
 ·rw[ybln h1 h j,show bK k=54 by unfold bK;rw[if_pos h]]
  simpa using List.all_eq_true.1 yblp j (List.mem_range.2 hj)
 ·rw[yblo (by omega) j,show bK k=55 by unfold bK;rw[if_neg h]]
  simpa using List.all_eq_true.1 yblq j (List.mem_range.2 hj)
theorem ybwe {s:Fs} {k:Nat} (h:LnkS s k) (h1:1<=k) (Dt:List Int) (n:Nat) (hn:n<=4):∀ j,j<=n->fwrE s (tx0 s) Dt 0 0 ⟨s.fo,[],pmB (bK k) 0 n⟩ j=some ⟨foW k j,putW (bK k) Dt j,pmB (bK k) j n⟩
 | 0,_=>by
  show some (Fw.mk s.fo [] _)=_
  rw[h.fo];rfl
 | j+1,hj=>by
  unfold fwrE
  rw[ybwe h h1 Dt n hn j (by omega),Option.bind_some]
  show (ownE (foW k j) s.k ((pmB (bK k) j n).getD (0+j) 0)).map _=_
  have h0:(pmB (bK k) j n).getD (0+j) 0=0:=by rw[Nat.zero_add,ybdc,if_neg (by omega)]
  have h2:ownE (foW k j) s.k 0=some (bK k+j,useF (foW k j) (bK k+j)):=by
   unfold ownE
   rw[if_pos rfl,h.kk,ybse h1 j (by omega)];rfl
  rw[h0,h2,Option.map_some]
  have h3:qdw { tx0 s with fo:=foW k j,put:=putW (bK k) Dt j } s (pmB (bK k) j n) (0+j)=List.replicate 64 0:=by
   unfold qdw
   rw[if_pos h0]
  show some (Fw.mk _ (putZ (putW (bK k) Dt j) _ (qfb (qdw _ _ (pmB (bK k) j n) (0+j)) Dt 0 (0+j) 64)) ((pmB (bK k) j n).set (0+j) _))=_
  rw[h3,Nat.zero_add,ybzc (by omega)]
  rfl
theorem qzp (b:Nat) (Dt:List Int):∀ j,qcp (putW b Dt j)
 | 0=>List.Pairwise.nil
 | j+1=>qex _ _ (qzp b Dt j)
theorem qqm {b:Nat} (Dt:List Int) {z:Int × List Int}:∀ {n},z ∈ putW b Dt n->∃ j,j<n/\z=(((b+j:Nat):Int),qfb (List.replicate 64 0) Dt 0 j 64)
 | 0,h=>by cases h
 | n+1,h=>by
  rcases qde h with h | h
  ·exact⟨n,by omega,h⟩
  ·obtain⟨j,hj,e⟩:=qqm Dt h
   exact⟨j,by omega,e⟩
theorem ybfv (b:Nat) (Dt:List Int) (j:Nat):∀ n,j<n->getZ (putW b Dt n) ((b+j:Nat):Int)=some (qfb (List.replicate 64 0) Dt 0 j 64)
 | 0,h=>by omega
 | n+1,h=>by
  by_cases e:j=n
  ·subst e
   exact qgj _ _ _
  ·show getZ (putZ (putW b Dt n) _ _) _=_
   rw[qcg _ (by omega)]
   exact ybfv b Dt j n (by omega)
theorem ybfw (b:Nat) (Dt:List Int):∀ n,(putW b Dt n).length<=n
 | 0=>Nat.le_refl _
 | n+1=>by
  have h1:=qdo ((b+n:Nat):Int) (qfb (List.replicate 64 0) Dt 0 n 64) (putW b Dt n)
  have h2:=ybfw b Dt n
  show (putZ _ _ _).length<=_
  omega
structure LkW (s : Fs) (k i : Nat) (Dt : List Int) : Prop where
 kk:s.k=96
 rows:s.rows=[]
 fo:∃ S,s.fo=hasF (qay 16) S
 n0:s.nodes[0]? = some (Xr i k)
 n1:s.nodes[1]? = some (Nw k (k - i) Dt.length)
 rest:∀ j,2<=j->j<32->s.nodes[j]? = some zN
 rise:qcp s.todo
 keys:∀ z ∈ s.todo,z.1 ∈ qyt
 byte:qnz s
 d:∀ j,j<nbk (k - i)->secE s (53+j)=blkB (Dr i k) j
 blk:∀ j,j<blkN (Dt.length:Int)->secE s (bK k+j)=blkC (fun m=>Dt.getD m 0) j
theorem LkW.len {s:Fs} {k i:Nat} {Dt:List Int} (h:LkW s k i Dt):s.todo.length<=11:=qws h.rise qyt h.keys
theorem LkW.text {s:Fs} {k i:Nat} {Dt:List Int} (h:LkW s k i Dt) (hD:Dt.length<=200):qbc (secE s) (Nw k (k - i) Dt.length).P (Nw k (k - i) Dt.length).s=Dt:=by
 obtain⟨n,hn⟩:∃ n,blkN (Dt.length:Int)=n:=⟨_,rfl⟩
 have hb:=h.blk
 rw[hn]at hb
 have hP:(Nw k (k - i) Dt.length).P=(List.range n).map fun j=>((bK k+j:Nat):Int):=by
  show pmB (bK k) (blkN (Dt.length:Int)) (blkN (Dt.length:Int))=_
  rw[hn]
  unfold pmB
  rw[Nat.sub_self,List.replicate_zero,List.append_nil]
 have hf:(Nw k (k - i) Dt.length).P.flatMap (qby (secE s))=(List.range (64*n)).map fun m=>Dt.getD m 0:=by
  rw[hP,<-qvo,List.flatMap_map,List.flatMap_def,List.flatMap_def]
  congr 1
  refine List.map_congr_left fun j hj=>?_
  show qby (secE s) _=_
  unfold qby
  have:=(ybqr k).1
  rw[if_neg (by omega),Int.toNat_natCast,hb j (List.mem_range.1 hj)]
 have hL:Dt.length<=64*n:=by rw[<-hn];unfold blkN qcc;split <;> omega
 unfold qbc
 rw[hf]
 show List.take (Int.toNat (Dt.length:Int)) _=_
 rw[Int.toNat_natCast]
 apply List.ext_getElem?
 intro m
 rw[List.getElem?_take]
 by_cases hm:m<Dt.length
 ·rw[if_pos hm,List.getElem?_map,List.getElem?_range (by omega),List.getElem?_eq_getElem hm,Option.map_some,List.getD_eq_getElem?_getD,List.getElem?_eq_getElem hm];rfl
 ·rw[if_neg hm,List.getElem?_eq_none (by omega)]
def wY (k:Nat) (Dt:List Int):Fw:=⟨foW k (blkN (Dt.length:Int)),putW (bK k) Dt (blkN (Dt.length:Int)),pmB (bK k) (blkN (Dt.length:Int)) (blkN (Dt.length:Int))⟩
def wS (s:Fs) (k:Nat) (Dt:List Int):Fs:=qhs s (qeu (qhf s (Nw k k Dt.length) (wY k Dt)) (Xr 0 k) (Nw k k Dt.length))
theorem ybjy {s:Fs} {k:Nat} (h:LnkS s k) (h1:1<=k) (h7:k<8) (Dt:List Int) (hD:qco Dt) (h5:Dt.length<=200):LkW (wS s k Dt) k 0 Dt:=by
 obtain⟨n,hn⟩:∃ n,blkN (Dt.length:Int)=n:=⟨_,rfl⟩
 have hn4:n<=4:=by rw[<-hn];exact qty h5
 have hb:=ybqr k
 obtain⟨S,eS⟩:=ybca k n
 unfold wS
 obtain⟨x,hx⟩:∃ x,x=qeu (qhf s (Nw k k Dt.length) (wY k Dt)) (Xr 0 k) (Nw k k Dt.length):=⟨_,rfl⟩
 have hput:x.put=putZ (putW (bK k) Dt n) 37 (qbf (Xr 0 k)++qbf (Nw k k Dt.length)):=by
  rw[hx]
  show gonP (putZ (putW _ _ _) ((foW k _).nd 0 0) _) []=_
  rw[hn,eS,ybfc];rfl
 have hrise:qcp x.put:=by rw[hput];exact qex _ _ (qzp _ _ _)
 have hc:∀ j,qco (blkC (fun i=>Dt.getD i 0) j):=fun j y hy=>by
  obtain⟨i,_,rfl⟩:=List.mem_map.1 hy
  show 0<=Dt.getD _ 0/\Dt.getD _ 0<=255
  rw[List.getD_eq_getElem?_getD]
  by_cases hi:64*j+i<Dt.length
  ·rw[List.getElem?_eq_getElem hi];exact hD _ (List.getElem_mem hi)
  ·rw[List.getElem?_eq_none (by omega)];decide
 have hlen:1<s.nodes.length:=(List.getElem?_eq_some_iff.1 h.n1).1
 rw[<-hx]
 refine⟨h.kk,by rw[hx];exact h.rows,?_,?_,?_,fun j h2 h3=>?_,qmi _ _ h.rise,fun z hz=>?_,ybef _ _ hrise h.byte (fun z hz=>?_) ?_ (by rw[hx];exact h.rows),fun j hj=>?_,fun j hj=>?_⟩
 ·rw[hx]
  exact⟨_,by show hasF (foW k _) _=_;rw[hn,eS,qcy]⟩
 ·rw[hx]
  show (s.nodes.set 1 _)[0]? = _
  rw[List.getElem?_set_ne (by omega)];exact h.n0
 ·rw[hx]
  show (s.nodes.set 1 _)[1]? = _
  rw[List.getElem?_set_self hlen];rfl
 ·rw[hx]
  show (s.nodes.set 1 _)[j]? = _
  rw[List.getElem?_set_ne (by omega)];exact h.rest j h2 h3
 ·rcases qpc _ _ hz with h4 | ⟨i,hi,h4⟩ | h4 | h4
  ·exact qhm (Or.inl (by rw[h4]))
  ·exact qhm (Or.inr (Or.inl ⟨i,hi,by rw[h4]⟩))
  ·rw[hput]at h4
   rcases qde h4 with h4 | h4
   ·exact qhm (Or.inr (Or.inr (Or.inl (by rw[h4]))))
   ·obtain⟨j,hj,e⟩:=qqm Dt h4
    exact qhm (Or.inr (Or.inr (Or.inr ⟨bK k - 53+j,by omega,by rw[e];show ((bK k+j:Nat):Int)=_;omega⟩)))
  ·exact h.keys z h4
 ·rw[hput]at hz
  rcases qde hz with h4 | h4
  ·rw[h4]
   intro y hy
   rcases List.mem_append.1 hy with hy | hy
   ·exact (qec 0 k h7).2 y hy
   ·exact (qqi k k Dt.length (by omega) h5).2 y hy
  ·obtain⟨j,hj,e⟩:=qqm Dt h4
   rw[e,ybkr]
   exact hc j
 ·rw[hx]
  show qco (qbs (hasF (foW k _) _))
  rw[hn,eS,qcy];exact qsf _ _ qsd
 ·have hj2:53+j<bK k:=by
   unfold bK nbk at *
   rw[Nat.sub_zero]at hj
   split at hj
   ·omega
   ·split at hj
    ·next h8=>rw[if_pos h8];omega
    ·next h8=>rw[if_neg h8];omega
  have hno:getZ (putZ (putW (bK k) Dt n) 37 (qbf (Xr 0 k)++qbf (Nw k k Dt.length))) ((53+j:Nat):Int)=none:=by
   cases hc:getZ (putZ (putW (bK k) Dt n) 37 (qbf (Xr 0 k)++qbf (Nw k k Dt.length))) ((53+j:Nat):Int) with
   | none=>rfl
   | some u=>
    exfalso
    rcases qde (qmq hc) with h4 | h4
    ·injection h4 with h4 _;omega
    ·obtain⟨j,hj,e⟩:=qqm Dt h4
     injection e with e _;omega
  rw[qqn _ _ hrise _ (by omega),hput,hno]
  exact h.d j (by rwa [Nat.sub_zero]at hj)
 ·rw[hn]at hj
  rw[qqn _ _ hrise _ (by omega),hput,qcg _ (by omega),ybfv (bK k) Dt j n hj,Option.getD_some,ybkr]
theorem ybns {s:Fs} {k:Nat} (h:LnkS s k):LkW s k 0 []:=by
 obtain⟨S,e⟩:=qoj k
 refine⟨h.kk,h.rows,⟨S,by rw[h.fo,e]⟩,h.n0,?_,h.rest,h.rise,h.keys,h.byte,fun j hj=>h.d j (by rwa [Nat.sub_zero]at hj),fun j hj=>?_⟩
 ·rw[h.n1];rfl
 ·have:blkN (([]:List Int).length:Int)=0:=by decide
  omega
section
variable {s : Fs} {k i : Nat} {Dt : List Int}
theorem LkW.snap (h:LkW s k i Dt):qbm s.fo:=by
 obtain⟨S,e⟩:=h.fo
 rw[e];exact qwe S
theorem LkW.nd (h:LkW s k i Dt):s.fo.nd 0 0=37:=by
 obtain⟨S,e⟩:=h.fo
 rw[e];exact ybfc S
theorem LkW.right (h:LkW s k i Dt) (S:Nat->Bool):qbn (hasF s.fo S)=0:=by
 obtain⟨T,e⟩:=h.fo
 rw[e,qcy];exact qrr _
theorem LkW.fbytes (h:LkW s k i Dt) (S:Nat->Bool):qco (qbs (hasF s.fo S)):=by
 obtain⟨T,e⟩:=h.fo
 rw[e,qcy];exact qsf _ _ qsd
end
theorem ybvi (f:Fo) (D:List Int):qcx 96 D ⟨f,[],(dirP 1).take 0⟩ 0=some ⟨f,putB D 0,dirP 0⟩:=by kernel_rfl
theorem qxd (f:Fo) (D:List Int):qcx 96 D ⟨f,[],(dirP 2).take 1⟩ 1=some ⟨f,putB D 1,dirP 1⟩:=by kernel_rfl
theorem ybvj (f:Fo) (D:List Int):qcx 96 D ⟨f,[],(dirP 5).take 1⟩ 1=some ⟨f,putB D 1,dirP 4⟩:=by kernel_rfl
theorem ybgm (f:Fo) (D:List Int):qcx 96 D ⟨f,[],(dirP 6).take 2⟩ 2=some ⟨f,putB D 2,dirP 5⟩:=by kernel_rfl
theorem ycab (f:Fo) (D:List Int) (n:Nat) (hn:n<7):qcx 96 D ⟨f,[],(dirP (n+1)).take (nbk n)⟩ (nbk n)=some ⟨f,putB D (nbk n),dirP n⟩:=by
 have:n=0\/n=1\/n=2\/n=3\/n=4\/n=5\/n=6:=by omega
 rcases this with rfl | rfl | rfl | rfl | rfl | rfl | rfl
 ·exact ybvi f D
 ·exact qxd f D
 ·exact qxd f D
 ·exact qxd f D
 ·exact ybvj f D
 ·exact ybgm f D
 ·exact ybgm f D
def unY (s:Fs) (i k:Nat):Fw:=⟨s.fo,putB (Dr (i+1) k) (nbk (k - (i+1))),dirP (k - (i+1))⟩
theorem ybvs : qdt zN=0/\(qbf zN).length=32/\qco (qbf zN):=⟨by kernel_rfl,by kernel_rfl,qhi (by kernel_rfl)⟩
theorem qxz {k l L:Nat} (h:1<l):qme (Nw k l L)=Nw k (l - 1) L:=by
 unfold qme
 rw[if_neg (by show (l:Int) ≠ 1;omega)]
 show ({ (Nw k l L) with l:=(l:Int) - 1 }:Pn)=_
 rw[show ((l:Int) - 1)=((l - 1:Nat):Int) by omega]
 rfl
theorem ybhc {k l L:Nat} (hl:0<l/\l<=8) (hL:L<=200):qdt (qme (Nw k l L))=0/\(qbf (qme (Nw k l L))).length=32/\qco (qbf (qme (Nw k l L))):=by
 by_cases h:l=1
 ·subst h
  exact ybvs
 ·rw[qxz (by omega)]
  have:=qqi k (l - 1) L (by omega) hL
  exact⟨this.1,qew this.1,this.2⟩
theorem ybpw {s:Fs} {k i:Nat} {Dt:List Int} (h:LkW s k i Dt) (h7:k<8) (hi:i<k) (hD:Dt.length<=200):ybed s (nmK i) (Xr i k) (Nw k (k - i) Dt.length) (Dr i k) (Dr (i+1) k) 0 (unY s i k) 37:=by
 have hl':=qre (i:=i+1) (k:=k) h7 (by omega)
 have hnb':=qtk (k - (i+1)) (by omega)
 have hnb:=qtk (k - i) (by omega)
 have hX:{ Xr i k with P:=(unY s i k).P,s:=((Dr (i+1) k).length:Int) }=Xr (i+1) k:=qls (i+1) k h7 (by omega) _ rfl
 have hP:(Xr i k).P.length=nbk (k - i):=qmd _
 have hdr:=ybhc (k:=k) (l:=k - i) (L:=Dt.length) (by omega) hD
 refine⟨h.n0,h.n1,rfl,⟨by show (0:Int)<((k - i:Nat):Int);omega,by show ((k - i:Nat):Int)<=200;omega⟩,by rw[ybwi];have:=qty hD;omega,by rw[h.kk];exact ybwj k _ _ hD,rfl,by rw[h.kk];exact ybqd i k,by rw[hP];have:=qpf (k - i);omega,xr_s i k h7,qse i (by omega),ybbm h7 (by omega) h.d,qog h7 (by omega),ybxg h7 (by omega),ybbl h7 hi,ybrl h7 hi,dr_has h7 hi,ybxd h7 hi,by omega,by rw[hP,hl'];omega,h.snap,?_,h.rows,h.nd,by omega,by omega,h.snap,?_,hdr.1,?_,hdr.2.1,h.right _,?_⟩
 ·rw[hl',hnb',h.kk]
  have:=ycab s.fo (Dr (i+1) k) (k - (i+1)) (by omega)
  rw[show k - (i+1)+1=k - i by omega]at this
  exact this
 ·rw[hX];exact (qec (i+1) k h7).1
 ·rw[hX];exact qew (qec (i+1) k h7).1
 ·have h2:=h.len
  have h3:=qqk (Dr (i+1) k) (nbk (k - (i+1)))
  have h4:=qpf (k - (i+1))
  show _+(putB (Dr (i+1) k) (nbk (k - (i+1)))).length<=24
  omega
theorem qpn {s:Fs} {k i:Nat} {Dt:List Int} (h:LkW s k i Dt) (h7:k<8) (hi:i<k) (s':Fs) (hs':s'=unFs s (Xr i k) (Nw k (k - i) Dt.length) (Dr (i+1) k) (unY s i k)):
  s'.nodes[0]? = some (Xr (i+1) k)/\s'.nodes[1]? = some (qme (Nw k (k - i) Dt.length))/\∀ j,2<=j->j<32->s'.nodes[j]? = some zN:=by
 have hX:{ Xr i k with P:=(unY s i k).P,s:=((Dr (i+1) k).length:Int) }=Xr (i+1) k:=qls (i+1) k h7 (by omega) _ rfl
 have hlen:1<s.nodes.length:=(List.getElem?_eq_some_iff.1 h.n1).1
 subst hs'
 refine⟨?_,?_,fun j h2 h3=>?_⟩
 ·show ((s.nodes.set 0 { Xr i k with P:=(unY s i k).P,s:=((Dr (i+1) k).length:Int) }).set 1 _)[0]? = _
  rw[List.getElem?_set_ne (by omega),List.getElem?_set_self (by omega),hX]
 ·show ((s.nodes.set 0 _).set 1 _)[1]? = _
  rw[List.getElem?_set_self (by rw[List.length_set];exact hlen)]
 ·show ((s.nodes.set 0 _).set 1 _)[j]? = _
  rw[List.getElem?_set_ne (by omega),List.getElem?_set_ne (by omega)]
  exact h.rest j h2 h3
theorem ybdt {s:Fs} {k i:Nat} {Dt:List Int} (h:LkW s k i Dt) (h7:k<8) (hi:i+1<k) (hD:Dt.length<=200):LkW (unFs s (Xr i k) (Nw k (k - i) Dt.length) (Dr (i+1) k) (unY s i k)) k (i+1) Dt:=by
 have hX:{ Xr i k with P:=(unY s i k).P,s:=((Dr (i+1) k).length:Int) }=Xr (i+1) k:=qls (i+1) k h7 (by omega) _ rfl
 have hN:qme (Nw k (k - i) Dt.length)=Nw k (k - (i+1)) Dt.length:=by rw[qxz (by omega)];rfl
 obtain⟨q1,q2,q3⟩:=qpn h h7 (by omega) _ rfl
 have hnw:=qqi k (k - (i+1)) Dt.length (by omega) hD
 have hnb:=qtk (k - i) (by omega)
 have hnb':=qtk (k - (i+1)) (by omega)
 have hl':=qre (i:=i+1) (k:=k) h7 (by omega)
 have hgo:∀ p ∈ ybbk (Nw k (k - i) Dt.length) (qon (Xr i k) (Dr (i+1) k)),p=((53+nbk (k - (i+1)):Nat):Int):=fun p hp=>by
  unfold ybbk at hp
  rw[if_neg (by show ((k - i:Nat):Int) ≠ 1;omega)]at hp
  unfold qon at hp
  rw[hl',hnb']at hp
  split at hp
  ·cases hp
  ·next hne=>
   have h9:p=(Xr i k).P.getD (nbk (k - (i+1))) 0:=by simpa using hp
   have h8:(Xr i k).P=(List.range (nbk (k - i))).map fun j=>((53+j:Nat):Int):=ybbj _
   have h10:(Xr i k).P.length=nbk (k - i):=qmd _
   rw[h10]at hne
   rw[h9,h8,List.getD_eq_getElem?_getD,List.getElem?_map,List.getElem?_range (by omega)];rfl
 have hdn:=qvt (s:=s) (x:=qeu (unTx s (Xr i k) (Nw k (k - i) Dt.length) (Dr (i+1) k) (unY s i k)) (Xr (i+1) k) (Nw k (k - (i+1)) Dt.length)) (D':=Dr (i+1) k) (nb:=nbk (k - (i+1))) (v:=qbf (Xr (i+1) k)++qbf (Nw k (k - (i+1)) Dt.length)) (g:=ybbk (Nw k (k - i) Dt.length) (qon (Xr i k) (Dr (i+1) k))) (qpf _) (by
   show gonP (putZ (putB _ _) (s.fo.nd 0 0) _) _=_
   rw[h.nd];rfl) (fun j hj hc=>by have:=hgo _ hc;omega) h.rise h.keys h.byte (fun y hy=>by
   rcases List.mem_append.1 hy with hy | hy
   ·exact (qec (i+1) k h7).2 y hy
   ·exact hnw.2 y hy) (qog h7 (by omega)) (h.fbytes _) h.rows
 rw[hN]at q2
 have e:unFs s (Xr i k) (Nw k (k - i) Dt.length) (Dr (i+1) k) (unY s i k)=qhs s (qeu (unTx s (Xr i k) (Nw k (k - i) Dt.length) (Dr (i+1) k) (unY s i k)) (Xr (i+1) k) (Nw k (k - (i+1)) Dt.length)):=by
  unfold unFs
  rw[hX,hN]
 rw[e]at q1 q2 q3 ⊢
 obtain⟨a1,a2,a3,a4,a5⟩:=hdn
 obtain⟨T,eT⟩:=h.fo
 refine⟨h.kk,h.rows,⟨_,by show hasF s.fo _=_;rw[eT,qcy]⟩,q1,q2,q3,a1,a2,a3,a4,fun j hj=>?_⟩
 have hb:53+nbk (k - (i+1))<=bK k:=by
  unfold bK nbk
  split
  ·split <;> omega
  ·split
   ·split <;> omega
   ·split <;> omega
 rw[a5 _ (by omega)]
 exact h.blk j hj
theorem ybpx {L:List Pn} (h0:∃ X,L[0]? = some X/\X.P=[]) (h1:L[1]? = some zN) (hr:∀ j,2<=j->j<32->L[j]? = some zN) (u:Int):qkv L u 32=0:=by
 have hz:useP zN u=0:=by unfold useP;rw[if_neg (by show ¬ ((0:Int) ≠ 0/\_);simp)]
 have hj:∀ j,j<32->useP (L.getD j zN) u=0:=fun j hj=>by
  rw[List.getD_eq_getElem?_getD]
  have:j=0\/j=1\/2<=j:=by omega
  rcases this with rfl | rfl | h2
  ·obtain⟨X,e,hP⟩:=h0
   rw[e]
   show useP X u=0
   unfold useP
   split
   ·rw[hP];rfl
   ·rfl
  ·rw[h1];exact hz
  ·rw[hr j h2 hj];exact hz
 have:∀ n,n<=32->qkv L u n=0:=by
  intro n
  induction n with
  | zero=>intro _;rfl
  | succ n ih=>
   intro hn
   show qkv L u n+useP (L.getD n zN) u=0
   rw[ih (by omega),hj n (by omega)]
 exact this 32 (Nat.le_refl _)
section
variable {w : World} {gf : Nat} {s : Fs} {F : Nat -> Prop} {B : Nat} {a : Addr} {k i : Nat} {Dt : List Int}
theorem qwj (h:FsAt w gf s F B a) (hB:B<=w.heap.size) (hs:LnkS s k) (h1:1<=k) (h7:k<8) (v:Value) (hv:qbk w v Dt) (hD:qco Dt) (h5:Dt.length<=200):
  Calls Tryz.prog 16 #[.pointer (some ⟨gf,0,none⟩),.int .i64 2,.int .i64 0,v] w
   (fun e w'=>e=.returned (.tuple #[.int .i64 (Dt.length:Int),.int .i64 0])/\∃ s',LkW s' k 0 Dt/\FsAt w' gf s' F B a/\qab F w w'):=by
 by_cases h0:0<Dt.length
 ·obtain⟨n,hn⟩:∃ n,blkN (Dt.length:Int)=n:=⟨_,rfl⟩
  have hn4:n<=4:=by rw[<-hn];exact qty h5
  have hn2:(Dt.length+63) / 64=n:=by rw[<-hn];unfold blkN qcc;split <;> omega
  have hy:fwrE s (tx0 s) Dt 0 (0 / 64) ⟨s.fo,[],[]++List.replicate ((0+Dt.length+63) / 64 - ([]:List Int).length) 0⟩ ((0+Dt.length - 1) / 64+1 - 0 / 64)=some (wY k Dt):=by
   have e1:(0+Dt.length+63) / 64 - ([]:List Int).length=n:=by rw[<-hn2];simp
   have e2:(0+Dt.length - 1) / 64+1 - 0 / 64=n:=by omega
   rw[e1,e2]
   unfold wY
   rw[hn]
   have:=ybwe hs h1 Dt n hn4 n (Nat.le_refl _)
   have e3:pmB (bK k) 0 n=[]++List.replicate n 0:=by unfold pmB;simp
   rw[e3]at this
   exact this
  obtain⟨S,eS⟩:=ybca k n
  have hfo:(wY k Dt).fo=foW k n:=by unfold wY;rw[hn]
  have hnw:=qqi k k Dt.length (by omega) h5
  refine (ybew h hB (Nk k [] 0) hs.n1 rfl (fun p hp=>(by cases hp)) (by show 0<=8;omega) 0 rfl (by omega) 0 v Dt hv h0 (by omega) (by rw[hs.fo];exact qqb k) (wY k Dt) hy hs.rows 37 (by rw[hfo,eS];exact ybfc S) (by omega) (by omega) (by rw[hfo,eS];exact qwe S) (Xr 0 k) hs.n0 (Nw k k Dt.length) (by
   unfold Nw wY
   simp[Nk]) (qec 0 k h7).1 hnw.1 (qew (qec 0 k h7).1) (qew hnw.1) (by
    show qbn (hasF (wY k Dt).fo _)=0
    rw[hfo,eS,qcy];exact qrr _) (by
    have h2:=hs.len
    have h3:=ybfw (bK k) Dt n
    have h4:(wY k Dt).put=putW (bK k) Dt n:=by unfold wY;rw[hn]
    rw[h4];omega)).mono ?_
  rintro e w1 ⟨rfl,h2,k2⟩
  exact⟨rfl,_,ybjy hs h1 h7 Dt hD h5,h2,k2⟩
 ·obtain rfl:Dt=[]:=List.length_eq_zero_iff.1 (by omega)
  obtain⟨p,cp,rfl⟩:=qcq hv.1 0 rfl
  refine (qwc h (Nk k [] 0) hs.n1 rfl 0 (by omega) p cp).mono ?_
  rintro e w1 ⟨rfl,rfl⟩
  exact⟨rfl,s,ybns hs,h,qab.refl _ _⟩
theorem ybtb (h:FsAt w gf s F B a) (hs:LkW s k i Dt) (h7:k<8) (hi:i<k):
  Calls Tryz.prog 22 #[.pointer (some ⟨gf,0,none⟩),.int .i64 1,.string (nmK i)] w (fun e w'=>e=.returned (.tuple #[.int .i64 2,.int .i64 0])/\Below w.heap.size w w'):=by
 have hP:(Xr i k).P.length=nbk (k - i):=qmd _
 have h1:=ybmc h 0 (by omega) (Xr i k) hs.n0 rfl (by rw[hs.kk];exact ybqd i k) (by rw[hP];have:=qpf (k - i);omega) (xr_s i k h7) (nmK i) (qse i (by omega)) (Dr i k) (ybbm h7 (by omega) hs.d) (qog h7 (by omega)) (ybxg h7 (by omega))
 rw[(ybbl h7 hi).1,(ybbl h7 hi).2]at h1
 exact h1
theorem ybtd (h:FsAt w gf s F B a) (hs:LkW s k i Dt):
  Calls Tryz.prog 23 #[.pointer (some ⟨gf,0,none⟩),.int .i64 2] w (fun e w'=>e=.returned (.tuple #[.agg #[.int .i64 1,.int .i64 420,.int .i64 0,.int .i64 0,.int .i64 (Dt.length:Int),.int .i64 ((k - i:Nat):Int)],.int .i64 0])/\Below w.heap.size w w'):=
 ybme h 1 (by omega) (Nw k (k - i) Dt.length) hs.n1
theorem ybtc (h:FsAt w gf s F B a) (hs:LkW s k i Dt) (h5:Dt.length<=200):
  Calls Tryz.prog 18 #[.pointer (some ⟨gf,0,none⟩),.int .i64 2,.int .i64 0,.int .i64 512] w
   (fun e w'=>∃ v,e=.returned (.tuple #[v,.int .i64 0])/\qaf w' v Dt/\Below w.heap.size w w'):=by
 have h1:=qlj h hs.byte 1 (by omega) (Nw k (k - i) Dt.length) hs.n1 rfl (by rw[hs.kk];exact ybwj k _ _ h5) (by rw[ybwi];have:=qty h5;omega) ⟨by show (0:Int)<=(Dt.length:Int);omega,by show (Dt.length:Int)<=512;omega⟩ 0 512 (by omega) (by omega) (by omega)
 rw[hs.text h5,show qgc Dt 0 512=Dt by unfold qgc;rw[List.drop_zero,List.take_of_length_le (by omega)]]at h1
 refine h1.mono ?_
 rintro e w' ⟨v,e1,e2,_,e3⟩
 exact⟨v,e1,e2,e3⟩
end
structure ybqm (s : Fs) : Prop where
 n0:∃ X,s.nodes[0]? = some X/\X.P=[]
 n1:s.nodes[1]? = some zN
 rest:∀ j,2<=j->j<32->s.nodes[j]? = some zN
def LkAt (s:Fs) (k i:Nat) (Dt:List Int):Prop:=(i<k/\LkW s k i Dt)\/(i=k/\ybqm s)
section
variable {w : World} {gf : Nat} {s : Fs} {F : Nat -> Prop} {B : Nat} {a : Addr} {k i : Nat} {Dt : List Int}
theorem ybid (h:FsAt w gf s F B a) (hB:B<=w.heap.size) (hs:LkW s k i Dt) (h7:k<8) (hi:i<k) (h5:Dt.length<=200):
  Calls Tryz.prog 24 #[.pointer (some ⟨gf,0,none⟩),.int .i64 1,.string (nmK i)] w
   (fun e w'=>e=.returned (.int .i64 0)/\∃ s',LkAt s' k (i+1) Dt/\FsAt w' gf s' F B a/\qab F w w'):=by
 refine (ybmf h hB (ybpw hs h7 hi h5)).mono ?_
 rintro e w1 ⟨rfl,h1,k1⟩
 refine⟨rfl,_,?_,h1,k1⟩
 by_cases h2:i+1<k
 ·exact Or.inl ⟨h2,ybdt hs h7 h2 h5⟩
 ·obtain rfl:k=i+1:=by omega
  obtain⟨q1,q2,q3⟩:=qpn hs h7 hi _ rfl
  refine Or.inr ⟨rfl,⟨_,q1,?_⟩,?_,q3⟩
  ·show dirP (i+1 - (i+1))=[]
   rw[Nat.sub_self];rfl
  ·rw[q2,show i+1 - i=1 by omega];rfl
theorem ybta (h:FsAt w gf s F B a) (hs:ybqm s):
  Calls Tryz.prog 23 #[.pointer (some ⟨gf,0,none⟩),.int .i64 2] w (fun e w'=>e=.returned (.tuple #[.agg #[.int .i64 0,.int .i64 0,.int .i64 0,.int .i64 0,.int .i64 0,.int .i64 0],.int .i64 4])/\Below w.heap.size w w'):=
 ybme h 1 (by omega) zN hs.n1
theorem ybte (h:FsAt w gf s F B a) (hs:ybqm s):
  Calls Tryz.prog 19 #[.pointer (some ⟨gf,0,none⟩),.int .i64 0] w (fun e w'=>e=.returned (.tuple #[.int .i64 0,.int .i64 0])/\Below w.heap.size w w'):=by
 have h1:=ybxz h (fun X hX=>by
  obtain⟨j,hj,rfl⟩:=List.getElem_of_mem hX
  have hl:=h.len
  have:j=0\/j=1\/2<=j:=by omega
  rcases this with rfl | rfl | h2
  ·obtain⟨X,e,hP⟩:=hs.n0
   rw[List.getElem?_eq_getElem hj]at e
   injection e with e
   rw[e,hP];decide
  ·have e:=hs.n1
   rw[List.getElem?_eq_getElem hj]at e
   injection e with e
   rw[e];decide
  ·have e:=hs.rest j h2 (by omega)
   rw[List.getElem?_eq_getElem hj]at e
   injection e with e
   rw[e];decide) 0 (by omega)
 rw[ybpx hs.n0 hs.n1 hs.rest]at h1
 exact h1
end
theorem ybmv (n0:Int) (v:Value) (Dt:List Int) (w:World) (hv:qbk w v Dt) (hD:qco Dt):
  Calls Tryz.prog 6 #[.int .i64 n0,v] w (fun e w'=>e=.returned (.bool true)/\Below w.heap.size w w'):=by
 obtain⟨L,HL⟩:∃ L,Hid (Dt.length=L):=⟨_,rfl⟩
 obtain⟨q,cp,rfl⟩:=qcq hv.1 L HL.out
 have HV:=Lib.hid hv
 have HDB:=Lib.hid hD
 have HFL:=Lib.hid (ybli w)
 have HFR:=Lib.hid (fun W=>qyj 96 (by omega) (by omega) W)
 obtain⟨p,hp,hp2⟩:=pk_nat n0 7 (by omega) (by omega)
 have HP0:Hid (∀ W:World,Calls Tryz.prog 8 #[.int .i64 n0,.int .i64 7] W (fun e w'=>e=.returned (.int .i64 (p:Int))/\W=w')):=fun W=>by rw[<-hp];exact ybfs n0 7 W (by omega) (by omega)
 obtain⟨k,Hk⟩:∃ k,Hid (1+p=k):=⟨_,rfl⟩
 have hk:1<=k:=by rw[<-Hk.out];omega
 have hk2:k<8:=by rw[<-Hk.out];omega
 have iw:IntKind.i64.wrap (1+(p:Int))=(k:Int):=by rw[IntWalk.i64_in _ (by omega)];have:=Hk.out;omega
 have HKK:Hid (1<=k/\k<8):=⟨hk,hk2⟩
 have HNM:Hid (∀ (j:Nat) (W:World),j<8->Calls Tryz.prog 20 #[.int .i64 (j:Int)] W (fun e w'=>e=.returned (.string (nmK j))/\Below W.heap.size W w')):=fun j W hj=>ybnj j hj W
 have HNM0:Hid (∀ W:World,Calls Tryz.prog 20 #[.int .i64 0] W (fun e w'=>e=.returned (.string (nmK 0))/\Below W.heap.size W w')):=fun W=>ybnj 0 (by omega) W
 clear hp hp2 hv hD
 by_cases h5:L<=200
 ·have d1:decide ((200:Int)<(L:Int))=false:=decide_eq_false (by omega)
  have d2:¬ (200:Int)<(L:Int):=by omega
  have d3:¬ 200<L:=by omega
  have HL5:Hid (Dt.length<=200):=by show _<=_;rw[HL.out];exact h5
  go_enter Tryz.func6,Tryz.ntmps6
  go_wp2_with fail
  refine HFL.out.mono ?_
  rintro e w1 ⟨rfl,hb1⟩
  have HB1:=Lib.hid hb1
  clear hb1
  go_wp2_with fail
  refine (HFR.out w1).mono ?_
  rintro e w2 ⟨gf,ad,F,rfl,h2,hb2,hF2⟩
  have HB2:=Lib.hid (Below.step HB1.out hb2)
  have HF:Hid (∀ i,F i->w.heap.size<=i):=fun i hi=>Nat.le_trans HB1.out.size (hF2 i hi)
  have HMK:Hid (∀ W:World,Below w2.heap.size w2 W->Calls Tryz.prog 15 #[.pointer (some ⟨gf,0,none⟩),.int .i64 1,.string (nmK 0),.int .i64 1,.int .i64 420,.int .i64 0,.int .i64 0] W
    (fun e w'=>e=.returned (.tuple #[.int .i64 2,.int .i64 0])/\FsAt w' gf ls1 F w2.heap.size ad/\qab F W w')):=fun W hW=>ybmd (h2.below hW) hW.size ybsa (by omega) (by omega) (by omega)
  clear h2 hb2 hF2
  go_wp2_with fail
  refine (HP0.out w2).mono ?_
  rintro e w2' ⟨rfl,rfl⟩
  go_wp2_with fail
  refine (HNM0.out w2).mono ?_
  rintro e w3 ⟨rfl,hb3⟩
  have HM3:=Lib.hid (HMK.out w3 hb3)
  have HB3:=Lib.hid hb3
  clear hb3
  go_wp2_with fail
  refine HM3.out.mono ?_
  rintro e w4 ⟨rfl,h4,k4⟩
  have H4:=Lib.hid h4
  have HK4:Hid (qab F w2 w4):=(qab.of_below HB3.out).trans k4 (fun _ h=>Or.inl h)
  clear h4 k4
  go_wp2
  go_loopw [9] (fun iv wr=>∃ (j:Nat) (s:Fs),1<=j/\j<=k/\iv=.int .i64 (j:Int)/\Hid (LnkS s j)/\Hid (FsAt wr gf s F w2.heap.size ad)/\Hid (qab F w2 wr)) (fun iv _=>20 - (intOf iv).toNat)
  case atStart=>exact⟨1,ls1,by omega,hk,rfl,ybhm,H4,HK4⟩
  case round=>
   obtain⟨j,s,hj1,hjk,rfl,HS,HA,HK⟩:=hrel
   have ij:IntKind.i64.wrap ((j:Int)+1)=(j:Int)+1:=IntWalk.i64_in _ (by omega)
   by_cases hj:j<k
   ·have hj2:(j:Int)<(k:Int):=by omega
    have HLN:Hid (∀ W:World,Below wr.heap.size wr W->Calls Tryz.prog 21 #[.pointer (some ⟨gf,0,none⟩),.int .i64 1,.string (nmK j),.int .i64 2] W
      (fun e w'=>e=.returned (.int .i64 0)/\FsAt w' gf (qyx s (Xr 0 j) (Nk j [] 0) (Dr 0 (j+1)) (lnkY j)) F w2.heap.size ad/\qab F W w')):=fun W hW=>ybxw (HA.out.below hW) (Nat.le_trans HK.out.size hW.size) (ybyl HS.out hj1 (by omega))
    have HN:=Lib.hid (HNM.out j wr (by omega))
    go_wp2_with fail
    refine HN.out.mono ?_
    rintro e w5 ⟨rfl,hb5⟩
    have HB5:=Lib.hid hb5
    have HLW:=Lib.hid (HLN.out w5 hb5)
    clear hb5
    go_wp2_with fail
    refine HLW.out.mono ?_
    rintro e w6 ⟨rfl,h6,k6⟩
    have HA6:=Lib.hid h6
    have HK6:Hid (qab F w2 w6):=(HK.out.trans (qab.of_below HB5.out) (fun _ h=>Or.inl h)).trans k6 (fun _ h=>Or.inl h)
    clear h6 k6
    go_wp2
    go_roundw
    case rel=>exact⟨j+1,_,by omega,by omega,by go_num,ybmu HS.out hj1 (by omega),HA6,HK6⟩
    case measure=>simp[intOf];omega
   ·obtain rfl:j=k:=by omega
    have hj2:¬ (j:Int)<(j:Int):=by omega
    have HBR:Hid (Below w.heap.size w wr):=HB2.out.trans (HK.out.to_below HF.out HB2.out.size)
    have HWR:=Lib.hid (qwj HA.out HK.out.size HS.out HKK.out.1 HKK.out.2 (.slice q L cp) ⟨HV.out.1.below HBR.out,HV.out.2⟩ HDB.out HL5.out)
    go_wp2_with fail
    refine HWR.out.mono ?_
    rintro e w5 ⟨rfl,s5,hs5,h5',k5⟩
    have HA5:=Lib.hid h5'
    have HS5:Hid (LkAt s5 j 0 Dt):=Or.inl ⟨by omega,hs5⟩
    have HK5:Hid (qab F w2 w5):=HK.out.trans k5 (fun _ h=>Or.inl h)
    clear h5' k5 hs5
    go_wp2
    go_loopw [64] (fun iv wr=>∃ (i:Nat) (s:Fs),i<=j/\iv=.int .i64 (i:Int)/\Hid (LkAt s j i Dt)/\Hid (FsAt wr gf s F w2.heap.size ad)/\Hid (qab F w2 wr)) (fun iv _=>20 - (intOf iv).toNat)
    case atStart=>exact⟨0,s5,Nat.zero_le _,rfl,HS5,HA5,HK5⟩
    case round=>
     obtain⟨i,t,hi,rfl,HST,HAT,HKT⟩:=hrel
     have ii:IntKind.i64.wrap ((i:Int)+1)=(i:Int)+1:=IntWalk.i64_in _ (by omega)
     have ik:IntKind.i64.wrap ((j:Int) - (i:Int))=((j - i:Nat):Int):=by rw[IntWalk.i64_in _ (by omega)];omega
     by_cases hij:i<j
     ·have hij2:(i:Int)<(j:Int):=by omega
      have HSW:Hid (LkW t j i Dt):=by
       rcases HST.out with⟨_,h⟩ | ⟨h,_⟩
       ·exact h
       ·omega
      have HLK:=Lib.hid (fun (W:World) (hW:Below wr.heap.size wr W)=>ybtb (HAT.out.below hW) HSW.out HKK.out.2 hij)
      have HSS:=Lib.hid (fun (W:World) (hW:Below wr.heap.size wr W)=>ybtd (HAT.out.below hW) HSW.out)
      have HRR:=Lib.hid (fun (W:World) (hW:Below wr.heap.size wr W)=>ybtc (HAT.out.below hW) HSW.out HL5.out)
      have HUU:=Lib.hid (fun (W:World) (hW:Below wr.heap.size wr W)=>ybid (HAT.out.below hW) (Nat.le_trans HKT.out.size hW.size) HSW.out HKK.out.2 hij HL5.out)
      have HN:=Lib.hid (HNM.out i wr (by omega))
      have HBW:Hid (Below w.heap.size w wr):=HB2.out.trans (HKT.out.to_below HF.out HB2.out.size)
      go_wp2_with fail
      refine HN.out.mono ?_
      rintro e w6 ⟨rfl,hb6⟩
      have HB6:=Lib.hid hb6
      have HL6:=Lib.hid (HLK.out w6 hb6)
      clear hb6
      go_wp2_with fail
      refine HL6.out.mono ?_
      rintro e w7 ⟨rfl,hb7⟩
      have HB7:Hid (Below wr.heap.size wr w7):=Below.step HB6.out hb7
      have HS7:=Lib.hid (HSS.out w7 HB7.out)
      clear hb7
      go_wp2_with fail
      refine HS7.out.mono ?_
      rintro e w8 ⟨rfl,hb8⟩
      have HB8:Hid (Below wr.heap.size wr w8):=Below.step HB7.out hb8
      have HB9:Hid (Below wr.heap.size wr (w8.alloc (.cells #[.int .i64 1,.int .i64 420,.int .i64 0,.int .i64 0,.int .i64 (Dt.length:Int),.int .i64 ((j - i:Nat):Int)] 52))):=HB8.out.alloc HB8.out.size _
      have hr9:(w8.alloc (.cells #[.int .i64 1,.int .i64 420,.int .i64 0,.int .i64 0,.int .i64 (Dt.length:Int),.int .i64 ((j - i:Nat):Int)] 52)).heap[w8.heap.size]? = some (.cells #[.int .i64 1,.int .i64 420,.int .i64 0,.int .i64 0,.int .i64 (Dt.length:Int),.int .i64 ((j - i:Nat):Int)] 52 (0,0)):=heap_alloc_new _ _
      have HC9:Hid ((w8.alloc (.cells #[.int .i64 1,.int .i64 420,.int .i64 0,.int .i64 0,.int .i64 (Dt.length:Int),.int .i64 ((j - i:Nat):Int)] 52)).cell? ⟨w8.heap.size,5,none⟩=some (.int .i64 ((j - i:Nat):Int))):=cell_of_row _ _ 5 _ _ _ hr9
      have HR9:=Lib.hid (HRR.out _ HB9.out)
      clear hb8 hr9
      go_wp2_with fail
      refine HR9.out.mono ?_
      rintro e wa ⟨va,rfl,hva,hba⟩
      have HBA:Hid (Below wr.heap.size wr wa):=Below.step HB9.out hba
      have c5:wa.cell? ⟨w8.heap.size,5,none⟩=some (.int .i64 ((j - i:Nat):Int)):=ybbg hba HC9.out
      have cv1:=qxs Dt hva
      have cv2:=qxs Dt (HV.out.1.below (HBW.out.trans (HBA.out.mono HBW.out.size)))
      generalize qch Dt=S at cv1 cv2
      have HNA:=Lib.hid (HNM.out i wa (by omega))
      clear hva hba
      go_wp2_with fail
      refine HNA.out.mono ?_
      rintro e wb ⟨rfl,hbb⟩
      have HBB:Hid (Below wr.heap.size wr wb):=Below.step HBA.out hbb
      have HUB:=Lib.hid (HUU.out wb HBB.out)
      clear hbb c5 cv1 cv2
      go_wp2_with fail
      refine HUB.out.mono ?_
      rintro e wc ⟨rfl,t2,ht2,hc2,kc2⟩
      have HT2:=Lib.hid ht2
      have HA2:=Lib.hid hc2
      have HK2:Hid (qab F w2 wc):=(HKT.out.trans (qab.of_below HBB.out) (fun _ h=>Or.inl h)).trans kc2 (fun _ h=>Or.inl h)
      clear ht2 hc2 kc2
      go_wp2
      go_roundw
      case rel=>exact⟨i+1,t2,by omega,by go_num,HT2,HA2,HK2⟩
      case measure=>simp[intOf];omega
     ·obtain rfl:i=j:=by omega
      have hij2:¬ (i:Int)<(i:Int):=by omega
      have HSE:Hid (ybqm t):=by
       rcases HST.out with⟨h,_⟩ | ⟨_,h⟩
       ·omega
       ·exact h
      have HST1:=Lib.hid (ybta HAT.out HSE.out)
      have HUS:=Lib.hid (fun (W:World) (hW:Below wr.heap.size wr W)=>ybte (HAT.out.below hW) HSE.out)
      go_wp2_with fail
      refine HST1.out.mono ?_
      rintro e w6 ⟨rfl,hb6⟩
      have HB6:=Lib.hid hb6
      have HU6:=Lib.hid (HUS.out w6 hb6)
      clear hb6
      go_wp2_with fail
      refine HU6.out.mono ?_
      rintro e w7 ⟨rfl,hb7⟩
      have HBB:Hid (Below w.heap.size w w7):=(HB2.out.trans (HKT.out.to_below HF.out HB2.out.size)).trans ((Below.step HB6.out hb7).mono (HB2.out.trans (HKT.out.to_below HF.out HB2.out.size)).size)
      clear hb7
      go_wp2
      go_ret
      exact⟨rfl,HBB.out⟩
 ·have d1:decide ((200:Int)<(L:Int))=true:=decide_eq_true (by omega)
  have d2:(200:Int)<(L:Int):=by omega
  have d3:200<L:=by omega
  go_enter Tryz.func6,Tryz.ntmps6
  go_wp2_with fail
  refine HFL.out.mono ?_
  rintro e w1 ⟨rfl,hb1⟩
  have HB1:=Lib.hid hb1
  clear hb1
  go_wp2
  go_ret
  exact⟨rfl,HB1.out⟩
end Go.Proofs.YtpoglnpjadmbpaaGreatDoor
