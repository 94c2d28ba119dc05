/- Part of the proofs of FsLinks: the texts OrNames. -/
import Derived.Test.YtpoglnpjadmbpaaGreatDoorKA21
import Derived.Deep.OwnRows
set_option maxHeartbeats 16000000
set_option maxRecDepth 100000
namespace Go.Proofs.YtpoglnpjadmbpaaGreatDoor
open Go.RowKit
def qvp (L:List Int) (n:Int):List Int:=if 1<=n/\n<=32 then L.set (n - 1).toNat (L.getD (n - 1).toNat 0+1) else L
def qek (X:List En):List Int:=X.foldl (fun L x=>qvp L x.2) (List.replicate 32 0)
theorem qsc (X:List En) (x:En):qek (X++[x])=qvp (qek X) x.2:=by unfold qek;rw[List.foldl_append];rfl
theorem ybkv (L:List Int) (n:Int):(qvp L n).length=L.length:=by unfold qvp;split <;> simp
theorem qix (X:List En):∀ k,k<=X.length->(qek (X.take k)).length=32/\∀ i,0<=(qek (X.take k)).getD i 0/\(qek (X.take k)).getD i 0<=k
 | 0,_=>by
  refine⟨by simp[qek],fun i=>?_⟩
  have:(qek (X.take 0)).getD i 0=0:=by
   show (List.replicate 32 (0:Int)).getD i 0=0
   rw[List.getD_eq_getElem?_getD,List.getElem?_replicate]
   split <;> rfl
  rw[this];simp
 | k+1,hk=>by
  obtain⟨h1,h2⟩:=qix X k (by omega)
  have hkl:k<X.length:=by omega
  rw[<-List.take_append_getElem hkl,qsc]
  refine⟨by rw[ybkv];exact h1,fun i=>?_⟩
  have:=h2 i
  unfold qvp
  split
  ·rw[List.getD_eq_getElem?_getD,List.getElem?_set]
   split
   ·have h3:=h2 (X[k].2 - 1).toNat
    split
    ·simp only[Option.getD_some];omega
    ·simp;omega
   ·rw[<-List.getD_eq_getElem?_getD];omega
  ·omega
theorem ybsq (L:List Int) (i:Nat) (x:Int):(ints L).toArray.setIfInBounds i (.int .i64 x)=(ints (L.set i x)).toArray:=by
 unfold ints
 rw[List.map_set]
 simp
theorem ybnc (n:Nat):madeCells #[Value.int .i64 0] n=(ints (List.replicate n 0)).toArray:=by
 apply Array.ext_getElem?
 intro i
 unfold madeCells ints
 by_cases h:i<n
 ·simp[h,Nat.mod_one]
 ·simp[h]
theorem ybne (n:Nat) (x:Int) (hx:x=n) (hn:n<=1000000) (W:World):(Instr.makeSlice 32 (.int .i64 x) (.int .i64 x)).run Tryz.prog W=.ok (.slice (some ⟨W.heap.size,0,none⟩) n n) (W.alloc (.cells (ints (List.replicate n 0)).toArray 3)):=by
 subst hx
 rw[<-ybnc]
 exact run_make_row' 32 3 (.int .i64 0) 8 qpe qiv rfl .i64 .i64 n (by omega) (by omega) W
theorem ybnk (v:Value) (X:List En) (w:World) (h:qdd w v X) (hl:X.length<=1000):
  Calls Tryz.prog 86 #[v,.int .i64 32] w fun e w'=>∃ g,e=.returned (.slice (some ⟨g,0,none⟩) 32 32)/\w'.heap[g]? = some (.cells (ints (qek X)).toArray 3 (0,0))/\w.heap.size<=g/\Below w.heap.size w w':=by
 obtain⟨N,HN⟩:∃ N,Hid (N=X.length):=⟨_,rfl⟩
 obtain⟨p,cp,hv,hp⟩:=qgt h N HN.out
 rw[<-HN.out]at hl
 subst hv
 have HP:=Lib.hid hp
 clear h hp
 obtain⟨Z,HZ⟩:∃ Z,Hid (Z=List.replicate 32 (0:Int)):=⟨_,rfl⟩
 have hmk:∀ W:World,(Instr.makeSlice 32 (.int .i64 (max 0 32)) (.int .i64 (max 0 32))).run Tryz.prog W=.ok (.slice (some ⟨W.heap.size,0,none⟩) 32 32) (W.alloc (.cells (ints Z).toArray 3)):=fun W=>by
  rw[HZ.out];exact ybne 32 (max 0 32) (by decide) (by omega) W
 have HR0:Hid ((w.alloc (.cells (ints Z).toArray 3)).heap[w.heap.size]? = some (.cells (ints (qek (X.take 0))).toArray 3 (0,0))):=by
  have:=heap_alloc_new w (.cells (ints Z).toArray 3)
  rw[HZ.out]at this ⊢
  exact this
 go_enter Tryz.func86,Tryz.ntmps86
 go_wp2
 clear hmk
 go_loopw [14] (fun i wr=>∃ k:Nat,k<=N/\i=.int .i64 k/\Hid (wr.heap[w.heap.size]? = some (.cells (ints (qek (X.take k))).toArray 3 (0,0)))/\Below w.heap.size w wr) (fun i _=>N - (intOf i).toNat)
 case atStart=>exact⟨0,Nat.zero_le _,rfl,HR0,(Below.refl _ _).alloc (Nat.le_refl _) _⟩
 case round=>
  obtain⟨k,hk,rfl,HR,HB⟩:=hrel
  by_cases hlt:k<N
  ·obtain⟨g,o,rfl,hg,hc⟩:=HP.out (by omega)
   have hkl:k<X.length:=by rw[<-HN.out];exact hlt
   have hck:=hc k hkl
   obtain⟨x,Hx⟩:∃ x,Hid (X[k].1=x):=⟨X[k].1,rfl⟩
   obtain⟨n,Hn⟩:∃ n,Hid (X[k].2=n):=⟨X[k].2,rfl⟩
   rw[Hx.out,Hn.out]at hck
   have c1:=(HB.cell (p:=⟨g,o+k*2,none⟩) hg).trans hck.1
   have c2:=(HB.cell (p:=⟨g,o+(k*2+1),none⟩) hg).trans hck.2
   rw[<-Nat.add_assoc]at c2
   have hlt2:(k:Int)<(N:Int):=by omega
   have hgl:g<wr.heap.size:=Nat.lt_of_lt_of_le hg HB.size
   have hgn:¬ g=wr.heap.size:=by omega
   obtain⟨hl32,hbd⟩:=qix X k (by omega)
   have HST:Hid (qek (X.take (k+1))=qvp (qek (X.take k)) n):=by
    show _=_
    rw[<-List.take_append_getElem hkl,qsc,Hn.out]
   generalize qek (X.take k)=L at *
   have HL32:=Lib.hid hl32
   have hwl:w.heap.size<wr.heap.size:=qac HR.out
   have hwn:¬ w.heap.size=wr.heap.size:=by omega
   have HRA:Hid ((wr.alloc (.cells #[.string x,.int .i64 n] 100)).heap[w.heap.size]? = some (.cells (ints L).toArray 3 (0,0))):=qad HR.out _
   have HBA:Hid (Below w.heap.size w (wr.alloc (.cells #[.string x,.int .i64 n] 100))):=HB.alloc HB.size _
   clear hc hck
   by_cases hn1:1<=n
   ·by_cases hn32:n<=32
    ·have hj:(n - 1).toNat<L.length:=by rw[hl32];omega
     obtain⟨j,hje⟩:∃ j:Nat,n=(j:Int)+1:=⟨(n - 1).toNat,by omega⟩
     subst hje
     have hjj:((j:Int)+1 - 1).toNat=j:=by omega
     have hj32:j<32:=by omega
     obtain⟨y,Hy⟩:∃ y,Hid (L[j]? = some y):=⟨L[j]'(by rw[hl32];exact hj32),List.getElem?_eq_getElem _⟩
     have hyd:L.getD j 0=y:=by rw[List.getD_eq_getElem?_getD,Hy.out];rfl
     have hyb:=hbd j
     rw[hyd]at hyb
     have HST2:Hid (qek (X.take (k+1))=L.set j (y+1)):=by
      show _=_
      rw[HST.out]
      unfold qvp
      rw[if_pos ⟨hn1,hn32⟩,hjj,hyd]
     have cy:wr.cell? ⟨w.heap.size,j,none⟩=some (.int .i64 y):=by
      rw[cell_of_row _ _ _ _ _ _ HR.out]
      simp[ints,Hy.out]
     have fz:wr.frozen? ⟨w.heap.size,j,none⟩=false:=frozen_of_row _ _ _ _ _ HR.out
     have b1:(j:Int)+1 - 1=(j:Int):=by omega
     have b2:IntKind.i64.wrap ((j:Int)+1 - 1)=(j:Int):=by rw[b1];exact IntWalk.i64_in _ (by omega)
     have b3:(j:Int)<32:=by omega
     have d1:decide (1<=(j:Int)+1)=true:=by rw[decide_eq_true_iff];omega
     have d2:decide ((j:Int)+1<=32)=true:=by rw[decide_eq_true_iff];omega
     have HR2:Hid (((wr.setCell ⟨w.heap.size,j,none⟩ (.int .i64 (y+1))).alloc (.cells #[.string x,.int .i64 ((j:Int)+1)] 100)).heap[w.heap.size]? = some (.cells (ints (qek (X.take (k+1)))).toArray 3 (0,0))):=by
      have:=heap_setCell_same _ _ j _ _ (.int .i64 (y+1)) HR.out
      rw[ybsq]at this
      rw[HST2.out]
      exact qad this _
     have HB2:Hid (Below w.heap.size w ((wr.setCell ⟨w.heap.size,j,none⟩ (.int .i64 (y+1))).alloc (.cells #[.string x,.int .i64 ((j:Int)+1)] 100))):=(HB.setCell (Nat.le_refl _) _).alloc (by have:=HB.size;simpa[World.setCell]using this) _
     clear hyd hjj hbd HST HR HRA HBA hl32 b1
     go_wp2
     go_roundw
     case rel=>exact⟨k+1,by omega,by go_num,HR2,HB2.out⟩
     case measure=>simp[intOf];omega
    ·have d1:decide (1<=n)=true:=by rw[decide_eq_true_iff];exact hn1
     have d2:decide (n<=32)=false:=by rw[decide_eq_false_iff_not];exact hn32
     have HR2:Hid ((wr.alloc (.cells #[.string x,.int .i64 n] 100)).heap[w.heap.size]? = some (.cells (ints (qek (X.take (k+1)))).toArray 3 (0,0))):=by
      show _=_
      rw[HST.out]
      unfold qvp
      rw[if_neg (by omega)]
      exact HRA.out
     clear hbd hl32
     go_wp2
     go_roundw
     case rel=>exact⟨k+1,by omega,by go_num,HR2,HBA.out⟩
     case measure=>simp[intOf];omega
   ·have d1:decide (1<=n)=false:=by rw[decide_eq_false_iff_not];exact hn1
    have HR2:Hid ((wr.alloc (.cells #[.string x,.int .i64 n] 100)).heap[w.heap.size]? = some (.cells (ints (qek (X.take (k+1)))).toArray 3 (0,0))):=by
     show _=_
     rw[HST.out]
     unfold qvp
     rw[if_neg (by omega)]
     exact HRA.out
    clear hbd hl32
    go_wp2
    go_roundw
    case rel=>exact⟨k+1,by omega,by go_num,HR2,HBA.out⟩
    case measure=>simp[intOf];omega
  ·have HT:Hid (X.take k=X):=List.take_of_length_le (by rw[<-HN.out];omega)
   rw[HT.out]at HR
   go_wp2
   go_ret
   exact⟨_,rfl,HR.out,Nat.le_refl _,HB⟩
end Go.Proofs.YtpoglnpjadmbpaaGreatDoor
