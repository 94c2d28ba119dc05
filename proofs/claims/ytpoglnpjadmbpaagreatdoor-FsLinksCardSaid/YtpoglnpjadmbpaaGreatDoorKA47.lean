/- Part of the proofs of FsLinks: the texts LnkP, LnkQ. -/
import Derived.Test.YtpoglnpjadmbpaaGreatDoorKA46
set_option maxHeartbeats 16000000
set_option maxRecDepth 100000
namespace Go.Proofs.YtpoglnpjadmbpaaGreatDoor
open Go.RowKit
def nmr (i k:Nat):List En:=((List.range k).drop i).map fun j=>(nmK j,(2:Int))
def Dr (i k:Nat):List Int:=layD (nmr i k)
def nbk (n:Nat):Nat:=if n=0 then 0 else if n<5 then 1 else 2
def dirP (n:Nat):List Int:=if n=0 then [] else if n<5 then [53] else [53,54]
def Xr (i k:Nat):Pn:={ qov with P:=dirP (k - i),s:=((16*(k - i):Nat):Int) }
def Nk (l:Nat) (P:List Int) (sz:Nat):Pn:={ newN 420 0 0 with l:=(l:Int),P:=P,s:=(sz:Int) }
def foL (k:Nat):Fo:=if k=0 then qay 16 else if k<5 then useF (qay 16) 53 else useF (useF (qay 16) 53) 54
def putB (D:List Int):Nat->List (Int × List Int)
 | 0=>[]
 | j+1=>putZ (putB D j) ((53+j:Nat):Int) (blkB D j)
def lnkY (k:Nat):Fw:=⟨foL (k+1),putB (Dr 0 (k+1)) (nbk (k+1)),dirP (k+1)⟩
theorem ybnr : ((List.range 8).all fun k=>(List.range (k+1)).all fun i=>qct (nmr i k) == 0)=true:=by kernel_rfl
theorem ybto : ((List.range 8).all fun i=>(List.range 8).all fun j=> !(decide (i<j)) || Op.bytesLess (nmK i).data.toList (nmK j).data.toList)=true:=by kernel_rfl
theorem ybyt : ((List.range 8).all fun k=>(nmr 0 k).any (fun y=>decide (nmK k=y.1)) == false)=true:=by kernel_rfl
theorem ybtp : ((List.range 8).all fun k=>qjs (nmK k))=true:=by kernel_rfl
theorem qse (k:Nat) (h:k<8):qjs (nmK k)=true:=List.all_eq_true.1 ybtp k (List.mem_range.2 h)
theorem ybcu {i j:Nat} (h:i<j) (hj:j<8):lexB (nmK i) (nmK j)=true:=by
 have h1:=List.all_eq_true.1 (List.all_eq_true.1 ybto i (List.mem_range.2 (by omega))) j (List.mem_range.2 hj)
 rw[decide_eq_true h,Bool.not_true,Bool.false_or]at h1
 unfold lexB
 rw[Lib.toList_data,Lib.toList_data];exact h1
theorem nm_ne {i j:Nat} (hi:i<8) (hj:j<8) (h:i ≠ j):nmK i ≠ nmK j:=fun e=>by
 rcases Nat.lt_or_gt_of_ne h with h | h
 ·have h1:=ybcu h hj
  rw[e,qej]at h1;cases h1
 ·have h1:=ybcu h hi
  rw[e,qej]at h1;cases h1
section
variable {i k : Nat}
theorem qih (hk:k<8) (hi:i<=k):qct (nmr i k)=0:=by
 have:=List.all_eq_true.1 (List.all_eq_true.1 ybnr k (List.mem_range.2 hk)) i (List.mem_range.2 (by omega))
 simpa using this
theorem ybts (hk:k<8):qei (nmr i k):=by
 unfold qei nmr
 rw[List.pairwise_map]
 have h1:((List.range k).drop i).Pairwise (fun a b=>a<b):=(List.pairwise_lt_range (n:=k)).sublist (List.drop_sublist _ _)
 have h2:((List.range k).drop i).Pairwise (fun a b=>a<b/\b<8):=by
  refine List.Pairwise.imp_of_mem (fun {a b} _ hb hab=>⟨hab,?_⟩) h1
  have:=List.mem_range.1 (List.mem_of_mem_drop hb)
  omega
 exact h2.imp fun ⟨h3,h4⟩=>ybcu h3 h4
theorem ybcv : (nmr i k).length=k - i:=by unfold nmr;simp
theorem qju (hk:k<8) (hi:i<=k):outD (Dr i k)=nmr i k:=by
 unfold Dr
 rw[qqj (qih hk hi),ybjn (ybts hk)]
theorem ybtr : nmr 0 k++[(nmK k,2)]=nmr 0 (k+1):=by
 unfold nmr
 rw[List.drop_zero,List.drop_zero,List.range_succ,List.map_append];rfl
theorem ybtq (_hi:i<k):(nmr i k).eraseIdx 0=nmr (i+1) k:=by
 unfold nmr
 rw[List.eraseIdx_zero,<-List.drop_one,<-List.map_drop,List.drop_drop]
theorem qzc (hi:i<k):(nmr i k)[0]? = some (nmK i,2):=by
 unfold nmr
 rw[List.getElem?_map,List.getElem?_drop,Nat.add_zero,List.getElem?_range hi];rfl
theorem ybwh {z:En} (h:z ∈ nmr i k):∃ j,i<=j/\j<k/\z=(nmK j,2):=by
 unfold nmr at h
 obtain⟨j,hj,rfl⟩:=List.mem_map.1 h
 obtain⟨m,hm,e⟩:=List.getElem_of_mem hj
 rw[List.getElem_drop,List.getElem_range]at e
 have:=List.mem_range.1 (List.mem_of_mem_drop hj)
 exact⟨j,by omega,this,rfl⟩
theorem qre (hk:k<8) (hi:i<=k):(Dr i k).length=16*(k - i):=by unfold Dr;rw[qmz (qih hk hi),ybcv]
theorem qog (hk:k<8) (hi:i<=k):qco (Dr i k):=ybkw (qih hk hi)
theorem ybxg (hk:k<8) (hi:i<=k):qcn (Dr i k)=true:=ybfg (qih hk hi)
theorem qtk (n:Nat) (h:n<8):(16*n+63) / 64=nbk n:=by
 unfold nbk
 split
 ·omega
 ·split <;> omega
theorem dr_put (hk:k<8):qho (Dr 0 k) (nmK k,2)=0:=by
 unfold qho
 have h1:okE (nmK k,2)=true:=by
  unfold okE
  rw[qse k hk];rfl
 have h2:(outD (Dr 0 k)).any (fun y=>decide (nmK k=y.1))=false:=by
  rw[qju hk (Nat.zero_le _)]
  simpa using List.all_eq_true.1 ybyt k (List.mem_range.2 hk)
 have h3:(outD (Dr 0 k)).length ≠ 32:=by rw[qju hk (Nat.zero_le _),ybcv];omega
 rw[if_neg (by rw[h1];decide),if_neg (by rw[h2];decide),if_neg h3]
theorem ybxe (hk:k<8):layD (outD (Dr 0 k)++[(nmK k,2)])=Dr 0 (k+1):=by rw[qju hk (Nat.zero_le _),ybtr];rfl
theorem ybxd (hk:k<8) (hi:i<k):layD ((outD (Dr i k)).eraseIdx 0)=Dr (i+1) k:=by rw[qju hk (by omega),ybtq hi];rfl
theorem ybxf (hk:k<8):(qee (Dr 0 k) (nmK k)).2.2=4:=by
 rcases ybep (qih hk (Nat.zero_le k)) (nmK k) with⟨x,hx,h1,_⟩ | h
 ·obtain⟨j,_,hj,rfl⟩:=ybwh hx
  exact absurd h1 (nm_ne (by omega) hk (by omega))
 ·exact h.2.2.1
theorem ybbl (hk:k<8) (hi:i<k):(qee (Dr i k) (nmK i)).1=2/\(qee (Dr i k) (nmK i)).2.2=0:=by
 rcases ybep (qih hk (by omega:i<=k)) (nmK i) with⟨x,hx,h1,h2,h3,_⟩ | h
 ·obtain⟨j,_,hj,rfl⟩:=ybwh hx
  exact⟨h2,h3⟩
 ·exfalso
  have:=qzc hi
  obtain⟨h4,h5⟩:=List.getElem?_eq_some_iff.1 this
  exact h.1 (nmK i,2) (by rw[<-h5];exact List.getElem_mem h4) rfl
theorem ybrl (hk:k<8) (hi:i<k):∀ (m:Nat) (h:m<(outD (Dr i k)).length),decide (nmK i=(outD (Dr i k))[m].1)=true->m=0:=fun m h h1=>by
 have h2:(outD (Dr i k))[m]=(nmK (i+m),2):=by
  have h3:m<(nmr i k).length:=by rw[<-qju hk (by omega:i<=k)];exact h
  have h4:(nmr i k)[m]=(nmK (i+m),2):=by simp[nmr]
  rw[<-h4]
  congr 1
  exact qju hk (by omega)
 rw[h2,decide_eq_true_eq]at h1
 rw[qju hk (by omega),ybcv]at h
 by_cases hm:m=0
 ·exact hm
 ·exact absurd h1 (nm_ne (by omega) (by omega) (by omega))
theorem dr_has (hk:k<8) (hi:i<k):∃ x ∈ outD (Dr i k),decide (nmK i=x.1)=true:=by
 obtain⟨h4,h5⟩:=List.getElem?_eq_some_iff.1 (qzc hi)
 rw[qju hk (by omega)]
 exact⟨(nmK i,2),by rw[<-h5];exact List.getElem_mem h4,by simp⟩
end
theorem ybkp (D:List Int):∀ n,D.length<=64*n->((List.range n).flatMap fun j=>blkB D j).take D.length=D:=by
 have key:∀ n,((List.range n).flatMap fun j=>blkB D j)=(List.range (64*n)).map fun i=>D.getD i 0:=by
  intro n
  induction n with
  | zero=>rfl
  | succ n ih=>
   rw[List.range_succ,List.flatMap_append,ih,show 64*(n+1)=64*n+64 by omega,List.range_add,List.map_append]
   congr 1
   rw[List.flatMap_cons,List.flatMap_nil,List.append_nil]
   apply List.ext_getElem?
   intro i
   unfold blkB over
   rw[List.take_zero,List.nil_append,List.map_map]
   by_cases hi:i<64
   ·rw[List.getElem?_map,List.getElem?_range hi,Option.map_some]
    show _=some (D.getD (64*n+i) 0)
    by_cases h1:64*n+i<D.length
    ·rw[List.getElem?_append_left (by rw[List.length_take,List.length_drop];omega),List.getElem?_take,if_pos hi,List.getElem?_drop,List.getElem?_eq_getElem h1,List.getD_eq_getElem?_getD,List.getElem?_eq_getElem h1];rfl
    ·rw[List.getElem?_append_right (by rw[List.length_take,List.length_drop];omega),List.getElem?_drop,List.getElem?_replicate,if_pos (by rw[List.length_take,List.length_drop];omega),List.getD_eq_getElem?_getD,List.getElem?_eq_none (by omega)];rfl
   ·rw[List.getElem?_eq_none (by simp;omega),List.getElem?_eq_none (by simp;omega)]
 intro n hn
 rw[key]
 apply List.ext_getElem?
 intro i
 rw[List.getElem?_take]
 by_cases h:i<D.length
 ·rw[if_pos h,List.getElem?_map,List.getElem?_range (by omega),List.getElem?_eq_getElem h,Option.map_some,List.getD_eq_getElem?_getD,List.getElem?_eq_getElem h];rfl
 ·rw[if_neg h,List.getElem?_eq_none (by omega)]
theorem ybko {D:List Int} (h:qco D) (j:Nat):qco (blkB D j):=fun x hx=>by
 unfold blkB over at hx
 rw[List.take_zero,List.nil_append]at hx
 rcases List.mem_append.1 hx with hx | hx
 ·exact h x (List.mem_of_mem_drop (List.mem_of_mem_take hx))
 ·rw[List.eq_of_mem_replicate (List.mem_of_mem_drop hx)];decide
theorem ybqe : ((List.range 8).all fun n=>qdt (Xr 0 n) == 0 && ybgw (qbf (Xr 0 n)))=true:=by kernel_rfl
theorem xr_eq (i k:Nat):Xr i k=Xr 0 (k - i):=rfl
theorem qec (i k:Nat) (hk:k<8):qdt (Xr i k)=0/\qco (qbf (Xr i k)):=by
 have h:=List.all_eq_true.1 ybqe (k - i) (List.mem_range.2 (by omega))
 simp only[Bool.and_eq_true,beq_iff_eq]at h
 rw[xr_eq]
 exact⟨h.1,qhi h.2⟩
theorem qmd (n:Nat):(dirP n).length=nbk n:=by
 unfold dirP nbk
 split
 ·rfl
 ·split <;> rfl
theorem ybmz (D:List Int):qcx 96 D ⟨foL 0,[],dirP 0++List.replicate 1 0⟩ 1=some ⟨foL 1,putB D 1,dirP 1⟩:=by kernel_rfl
theorem qrz (D:List Int):qcx 96 D ⟨foL 1,[],dirP 1++List.replicate 0 0⟩ 1=some ⟨foL 1,putB D 1,dirP 1⟩:=by kernel_rfl
theorem ybna (D:List Int):qcx 96 D ⟨foL 4,[],dirP 4++List.replicate 1 0⟩ 2=some ⟨foL 5,putB D 2,dirP 5⟩:=by kernel_rfl
theorem qyy (D:List Int):qcx 96 D ⟨foL 5,[],dirP 5++List.replicate 0 0⟩ 2=some ⟨foL 5,putB D 2,dirP 5⟩:=by kernel_rfl
theorem ybfh (k:Nat) (hk:k<7):qcx 96 (Dr 0 (k+1)) ⟨foL k,[],dirP k++List.replicate (nbk (k+1) - nbk k) 0⟩ (nbk (k+1))=some (lnkY k):=by
 have:k=0\/k=1\/k=2\/k=3\/k=4\/k=5\/k=6:=by omega
 rcases this with rfl | rfl | rfl | rfl | rfl | rfl | rfl
 ·exact ybmz _
 ·exact qrz _
 ·exact qrz _
 ·exact qrz _
 ·exact ybna _
 ·exact qyy _
 ·exact qyy _
theorem qoj (k:Nat):∃ S,foL k=hasF (qay 16) S:=by
 unfold foL
 split
 ·exact⟨_,(qms _).symm⟩
 ·split
  ·exact⟨_,rfl⟩
  ·exact⟨_,by show hasF (hasF _ _) _=_;rw[qcy]⟩
theorem ybnp : qbd (qay 16) 0=true:=by kernel_rfl
theorem ybnn : qbn (qay 16)=0:=by kernel_rfl
theorem qsd : qco (qbs (qay 16)):=qhi (by kernel_rfl)
theorem qrr (S:Nat->Bool):qbn (hasF (qay 16) S)=0:=by rw[quy _ _ ybnp];exact ybnn
theorem qwe (S:Nat->Bool):qbm (hasF (qay 16) S):=fun k h1 h2=>qko k h1 h2
theorem ybfc (S:Nat->Bool):(hasF (qay 16) S).nd 0 0=37:=by
 show (qay 16).nd 0 0=37
 rw[qjt 0 (by omega)];rfl
def qyt : List Int:=[1,2,3,4,37,53,54,55,56,57,58]
structure LnkS (s : Fs) (k : Nat) : Prop where
 kk:s.k=96
 rows:s.rows=[]
 fo:s.fo=foL k
 n0:s.nodes[0]? = some (Xr 0 k)
 n1:s.nodes[1]? = some (Nk k [] 0)
 rest:∀ i,2<=i->i<32->s.nodes[i]? = some zN
 rise:qcp s.todo
 keys:∀ z ∈ s.todo,z.1 ∈ qyt
 byte:qnz s
 d:∀ j,j<nbk k->secE s (53+j)=blkB (Dr 0 k) j
theorem LnkS.len {s:Fs} {k:Nat} (h:LnkS s k):s.todo.length<=11:=qws h.rise qyt h.keys
theorem ybrk {N:Nat->List Int} {P:List Int} {nb:Nat} {D:List Int} (hP:P=(List.range nb).map fun j=>((53+j:Nat):Int)) (hN:∀ j,j<nb->N (53+j)=blkB D j) (n:Nat) (ht:((List.range nb).flatMap fun j=>blkB D j).take n=D):qbc N P (n:Int)=D:=by
 have hf:P.flatMap (qby N)=(List.range nb).flatMap fun j=>blkB D j:=by
  rw[hP,List.flatMap_map,List.flatMap_def,List.flatMap_def]
  congr 1
  refine List.map_congr_left fun j hj=>?_
  show qby N _=_
  unfold qby
  rw[if_neg (by omega),Int.toNat_natCast,hN j (List.mem_range.1 hj)]
 unfold qbc
 rw[hf,Int.toNat_natCast,ht]
theorem ybbj (k:Nat):dirP k=(List.range (nbk k)).map fun j=>((53+j:Nat):Int):=by
 unfold dirP nbk
 split
 ·rfl
 ·split <;> rfl
theorem qzn (D:List Int):∀ j,qcp (putB D j)
 | 0=>List.Pairwise.nil
 | j+1=>qex _ _ (qzn D j)
theorem qql (D:List Int) {z:Int × List Int}:∀ {n},z ∈ putB D n->∃ j,j<n/\z=(((53+j:Nat):Int),blkB D j)
 | 0,h=>by cases h
 | n+1,h=>by
  rcases qde h with h | h
  ·exact⟨n,by omega,h⟩
  ·obtain⟨j,hj,e⟩:=qql D h
   exact⟨j,by omega,e⟩
theorem ybft (D:List Int) (j:Nat):∀ n,j<n->getZ (putB D n) ((53+j:Nat):Int)=some (blkB D j)
 | 0,h=>by omega
 | n+1,h=>by
  by_cases e:j=n
  ·subst e
   exact qgj _ _ _
  ·show getZ (putZ (putB D n) _ _) _=_
   rw[qcg _ (by omega)]
   exact ybft D j n (by omega)
theorem qpf (k:Nat):nbk k<=2:=by unfold nbk;split;omega;split <;> omega
theorem qhm {z:Int} (h:z=4\/(∃ i:Nat,i<3/\z=((1+i:Nat):Int))\/z=37\/∃ j:Nat,j<6/\z=((53+j:Nat):Int)):z ∈ qyt:=by
 have h2:z=4\/(z=1\/z=2\/z=3)\/z=37\/(z=53\/z=54\/z=55\/z=56\/z=57\/z=58):=by
  rcases h with h | ⟨i,hi,h⟩ | h | ⟨j,hj,h⟩
  ·exact Or.inl h
  ·omega
  ·omega
  ·omega
 unfold qyt
 simp only[List.mem_cons]
 omega
theorem qvt {s:Fs} {x:Tx} {D':List Int} {nb:Nat} (hnb:nb<=2) {v:List Int} {g:List Int} (hput:x.put=gonP (putZ (putB D' nb) 37 v) g) (hg:∀ j,j<nb->((53+j:Nat):Int) ∉ g) (h1:qcp s.todo) (h2:∀ z ∈ s.todo,z.1 ∈ qyt) (h3:qnz s) (hv:qco v) (hD:qco D') (hfo:qco (qbs x.fo)) (hr:x.rows=[]):
  qcp (qhs s x).todo/\(∀ z ∈ (qhs s x).todo,z.1 ∈ qyt)/\qnz (qhs s x)/\(∀ j,j<nb->secE (qhs s x) (53+j)=blkB D' j)/\∀ n,53+nb<=n->secE (qhs s x) n=secE s n:=by
 have hrise:qcp x.put:=by rw[hput];exact qyo _ (qex _ _ (qzn _ _))
 refine⟨qmi _ _ h1,fun z hz=>?_,ybef _ _ hrise h3 (fun z hz=>?_) hfo hr,fun j hj=>?_,fun n hn=>?_⟩
 ·rcases qpc _ _ hz with h | ⟨i,hi,h⟩ | h | h
  ·exact qhm (Or.inl (by rw[h]))
  ·exact qhm (Or.inr (Or.inl ⟨i,hi,by rw[h]⟩))
  ·rw[hput]at h
   rcases qde (qqd g h) with h | h
   ·exact qhm (Or.inr (Or.inr (Or.inl (by rw[h]))))
   ·obtain⟨j,hj,e⟩:=qql D' h
    exact qhm (Or.inr (Or.inr (Or.inr ⟨j,by omega,by rw[e]⟩)))
  ·exact h2 z h
 ·rw[hput]at hz
  rcases qde (qqd g hz) with h | h
  ·rw[h];exact hv
  ·obtain⟨j,hj,e⟩:=qql D' h
   rw[e];exact ybko hD j
 ·rw[qqn _ _ hrise _ (by omega),hput,ybez g _ (hg j hj),qcg _ (by omega),ybft D' j nb hj];rfl
 ·rw[qqn _ _ hrise _ (by omega),hput]
  have:getZ (gonP (putZ (putB D' nb) 37 v) g) (n:Int)=none:=by
   cases hc:getZ (gonP (putZ (putB D' nb) 37 v) g) (n:Int) with
   | none=>rfl
   | some u=>
    exfalso
    rcases qde (qqd g (qmq hc)) with h | h
    ·injection h with h _;omega
    ·obtain⟨j,hj,e⟩:=qql D' h
     injection e with e _;omega
  rw[this];rfl
theorem ybnq : ((List.range 9).all fun l=>(l == 0) || (qdt (Nk l [] 0) == 0 && ybgw (qbf (Nk l [] 0))))=true:=by kernel_rfl
theorem qkn (l:Nat) (h0:0<l) (hl:l<9):qdt (Nk l [] 0)=0/\qco (qbf (Nk l [] 0)):=by
 have h:=List.all_eq_true.1 ybnq l (List.mem_range.2 hl)
 rw[show (l == 0)=false by simp;omega,Bool.false_or,Bool.and_eq_true,beq_iff_eq]at h
 exact⟨h.1,qhi h.2⟩
theorem ybys (l:Nat) (P:List Int) (sz:Nat):upN (Nk l P sz)=Nk (l+1) P sz:=by
 unfold upN Nk
 simp
theorem ybbm {s:Fs} {i k:Nat} (hk:k<8) (hi:i<=k) (h:∀ j,j<nbk (k - i)->secE s (53+j)=blkB (Dr i k) j):qbc (secE s) (Xr i k).P (Xr i k).s=Dr i k:=by
 have hl:=qre hk hi
 have hn:=qtk (k - i) (by omega)
 have ht:=ybkp (Dr i k) (nbk (k - i)) (by rw[hl];omega)
 rw[hl]at ht
 exact ybrk (ybbj (k - i)) h (16*(k - i)) ht
theorem ybqd (i k:Nat):qgd (Xr i k).P 96:=fun p hp=>by
 have hp2:p ∈ dirP (k - i):=hp
 rw[ybbj]at hp2
 obtain⟨j,hj,rfl⟩:=List.mem_map.1 hp2
 have:=List.mem_range.1 hj
 have:=qpf (k - i)
 omega
theorem xr_s (i k:Nat) (hk:k<8):0<=(Xr i k).s/\(Xr i k).s<=64*((Xr i k).P.length:Int):=by
 have hn:=qtk (k - i) (by omega)
 have hl:(Xr i k).P.length=nbk (k - i):=qmd _
 rw[hl]
 show (0:Int)<=((16*(k - i):Nat):Int)/\((16*(k - i):Nat):Int)<=_
 omega
theorem qls (i k:Nat) (hk:k<8) (hi:i<=k) (P:List Int) (hP:P=dirP (k - i)):{ qov with P:=P,s:=((Dr i k).length:Int) }=Xr i k:=by
 rw[qre hk hi,hP];rfl
theorem qyg (k:Nat) (S:Nat->Bool):qbn (hasF (foL k) S)=0:=by
 obtain⟨T,e⟩:=qoj k
 rw[e,qcy];exact qrr _
theorem qqb (k:Nat):qbm (foL k):=by
 obtain⟨T,e⟩:=qoj k
 rw[e];exact qwe _
theorem yber (k:Nat):(foL k).nd 0 0=37:=by
 obtain⟨T,e⟩:=qoj k
 rw[e];exact ybfc _
theorem qyf (k:Nat) (S:Nat->Bool):qco (qbs (hasF (foL k) S)):=by
 obtain⟨T,e⟩:=qoj k
 rw[e,qcy];exact qsf _ _ qsd
theorem qqk (D:List Int):∀ n,(putB D n).length<=n
 | 0=>Nat.le_refl _
 | n+1=>by
  have h1:=qdo ((53+n:Nat):Int) (blkB D n) (putB D n)
  have h2:=qqk D n
  show (putZ _ _ _).length<=_
  omega
theorem ybtl (k:Nat) (hk:k<7):nbk k<=nbk (k+1):=by
 have h1:=qtk k (by omega)
 have h2:=qtk (k+1) (by omega)
 omega
theorem ybyl {s:Fs} {k:Nat} (h:LnkS s k) (h1:1<=k) (h7:k<7):ybvt s (nmK k) (Xr 0 k) (Nk k [] 0) (Dr 0 k) (Dr 0 (k+1)) (lnkY k) 37:=by
 have hl:=qre (i:=0) (k:=k) (by omega) (Nat.zero_le _)
 have hl':=qre (i:=0) (k:=k+1) (by omega) (Nat.zero_le _)
 have hnb:=qtk k (by omega)
 have hnb':=qtk (k+1) (by omega)
 have hle:(Dr 0 (k+1)).length=16*(k+1):=hl'
 have hX:{ Xr 0 k with P:=(lnkY k).P,s:=((Dr 0 (k+1)).length:Int) }=Xr 0 (k+1):=qls 0 (k+1) (by omega) (Nat.zero_le _) _ rfl
 have hP:(Xr 0 k).P.length=nbk k:=qmd _
 refine⟨h.n0,h.n1,rfl,⟨by show (0:Int)<(k:Int);omega,by show (k:Int)<200;omega⟩,rfl,by show (0:Int)<1;decide,by rw[h.kk];exact ybqd 0 k,by rw[hP];have:=qpf k;omega,xr_s 0 k (by omega),qse k (by omega),ybbm (by omega) (Nat.zero_le _) (by rw[Nat.sub_zero];exact h.d),qog (by omega) (Nat.zero_le _),ybxg (by omega) (Nat.zero_le _),ybxf (by omega),dr_put (by omega),ybxe (by omega),by omega,by rw[hP,hle,hnb'];exact ybtl k h7,by rw[h.fo];exact qqb k,?_,h.rows,yber (k+1),by omega,by omega,qqb (k+1),?_,?_,?_,?_,qyg (k+1) _,?_⟩
 ·rw[hle,hnb',hP,h.fo,h.kk]
  exact ybfh k h7
 ·rw[hX];exact (qec 0 (k+1) (by omega)).1
 ·rw[ybys];exact (qkn (k+1) (by omega) (by omega)).1
 ·rw[hX];exact qew (qec 0 (k+1) (by omega)).1
 ·rw[ybys];exact qew (qkn (k+1) (by omega) (by omega)).1
 ·have h2:=h.len
  have h3:=qqk (Dr 0 (k+1)) (nbk (k+1))
  have h4:=qpf (k+1)
  show _+(putB (Dr 0 (k+1)) (nbk (k+1))).length<=24
  omega
theorem ybmu {s:Fs} {k:Nat} (h:LnkS s k) (h1:1<=k) (h7:k<7):LnkS (qyx s (Xr 0 k) (Nk k [] 0) (Dr 0 (k+1)) (lnkY k)) (k+1):=by
 have hX:{ Xr 0 k with P:=(lnkY k).P,s:=((Dr 0 (k+1)).length:Int) }=Xr 0 (k+1):=qls 0 (k+1) (by omega) (Nat.zero_le _) _ rfl
 unfold qyx
 rw[hX,ybys]
 obtain⟨a1,a2,a3,a4,a5⟩:=qvt (s:=s) (x:=qeu (qie s (Xr 0 k) (Nk (k+1) [] 0) (Dr 0 (k+1)) (lnkY k)) (Xr 0 (k+1)) (Nk (k+1) [] 0)) (D':=Dr 0 (k+1)) (nb:=nbk (k+1)) (v:=qbf (Xr 0 (k+1))++qbf (Nk (k+1) [] 0)) (g:=[]) (qpf _) (by
   show gonP (putZ (putB _ _) ((foL (k+1)).nd 0 0) _) []=_
   rw[yber]) (fun j _ hc=>by cases hc) h.rise h.keys h.byte (fun y hy=>by
   rcases List.mem_append.1 hy with hy | hy
   ·exact (qec 0 (k+1) (by omega)).2 y hy
   ·exact (qkn (k+1) (by omega) (by omega)).2 y hy) (qog (by omega) (Nat.zero_le _)) (qyf (k+1) _) h.rows
 have hlen:1<s.nodes.length:=(List.getElem?_eq_some_iff.1 h.n1).1
 refine⟨h.kk,h.rows,qms _,?_,?_,fun i h2 h3=>?_,a1,a2,a3,a4⟩
 ·show ((s.nodes.set 1 _).set 0 { Xr 0 k with P:=(lnkY k).P,s:=((Dr 0 (k+1)).length:Int) })[0]? = _
  rw[List.getElem?_set_self (by rw[List.length_set];omega),hX]
 ·show ((s.nodes.set 1 _).set 0 _)[1]? = _
  rw[List.getElem?_set_ne (by omega),List.getElem?_set_self hlen]
 ·show ((s.nodes.set 1 _).set 0 _)[i]? = _
  rw[List.getElem?_set_ne (by omega),List.getElem?_set_ne (by omega)]
  exact h.rest i h2 h3
def ls1 : Fs:=ybfj (fs0 96) 420 0 0 qov (Dr 0 1) (lnkY 0)
theorem dr1 : (Dr 0 1).length=16:=qre (i:=0) (k:=1) (by omega) (Nat.zero_le _)
theorem ybsa : ybkg (fs0 96) (nmK 0) 420 0 0 qov [] (Dr 0 1) (lnkY 0) 37:=by
 have hX:{ qov with P:=(lnkY 0).P,s:=((Dr 0 1).length:Int) }=Xr 0 1:=qls 0 1 (by omega) (Nat.zero_le _) _ rfl
 refine⟨rfl,rfl,by decide,(fun p hp=>(by cases hp)),by decide,by decide,qse 0 (by omega),by kernel_rfl,(fun x hx=>(by cases hx)),by kernel_rfl,by kernel_rfl,⟨zN,by kernel_rfl,rfl⟩,by kernel_rfl,?_,by rw[dr1];omega,by rw[dr1];decide,qko,?_,rfl,yber 1,by omega,by omega,qqb 1,?_,(qkn 1 (by omega) (by omega)).1,?_,qew (qkn 1 (by omega) (by omega)).1,qyg 1 _,?_⟩
 ·rw[show outD []=[] by kernel_rfl];rfl
 ·rw[dr1]
  exact ybfh 0 (by omega)
 ·rw[hX];exact (qec 0 1 (by omega)).1
 ·rw[hX];exact qew (qec 0 1 (by omega)).1
 ·have h3:=qqk (Dr 0 1) 1
  show 0+(putB (Dr 0 1) 1).length<=24
  omega
theorem ybhm : LnkS ls1 1:=by
 have hX:{ qov with P:=(lnkY 0).P,s:=((Dr 0 1).length:Int) }=Xr 0 1:=qls 0 1 (by omega) (Nat.zero_le _) _ rfl
 have hN:newN 420 0 0=Nk 1 [] 0:=rfl
 unfold ls1 ybfj
 rw[hX,hN]
 obtain⟨a1,a2,a3,a4,a5⟩:=qvt (s:=fs0 96) (x:=qeu (qie (fs0 96) qov (Nk 1 [] 0) (Dr 0 1) (lnkY 0)) (Xr 0 1) (Nk 1 [] 0)) (D':=Dr 0 1) (nb:=1) (v:=qbf (Xr 0 1)++qbf (Nk 1 [] 0)) (g:=[]) (by omega) (by
   show gonP (putZ (putB _ _) ((foL 1).nd 0 0) _) []=_
   rw[yber];rfl) (fun j _ hc=>by cases hc) List.Pairwise.nil (fun z hz=>by cases hz) (ybcb 96 (by omega) (by omega)) (fun y hy=>by
   rcases List.mem_append.1 hy with hy | hy
   ·exact (qec 0 1 (by omega)).2 y hy
   ·exact (qkn 1 (by omega) (by omega)).2 y hy) (qog (by omega) (Nat.zero_le _)) (qyf 1 _) rfl
 refine⟨rfl,rfl,qms _,?_,?_,fun i h2 h3=>?_,a1,a2,a3,a4⟩
 ·show ((qkz.set 1 _).set 0 { qov with P:=(lnkY 0).P,s:=((Dr 0 1).length:Int) })[0]? = _
  rw[List.getElem?_set_self (by rw[List.length_set];decide),hX]
 ·show ((qkz.set 1 _).set 0 _)[1]? = _
  rw[List.getElem?_set_ne (by omega),List.getElem?_set_self (by decide)]
 ·show ((qkz.set 1 _).set 0 _)[i]? = _
  rw[List.getElem?_set_ne (by omega),List.getElem?_set_ne (by omega)]
  exact ybtt i (by omega) h3
end Go.Proofs.YtpoglnpjadmbpaaGreatDoor
