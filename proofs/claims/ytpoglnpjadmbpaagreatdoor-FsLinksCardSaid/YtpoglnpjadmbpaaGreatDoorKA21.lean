/- Part of the proofs of FsLinks: the texts SortI, OrP, OrCut, OrLost. -/
import Derived.Test.YtpoglnpjadmbpaaGreatDoorKA4
import Derived.Test.YtpoglnpjadmbpaaGreatDoorKA10
import Derived.Test.YtpoglnpjadmbpaaGreatDoorKA19
import Derived.Shelf.Slices.In.SortNone
import Derived.Sort.OwnSortedInts
import Derived.Laws.Rows
import Derived.Deep.AppendLies
set_option maxHeartbeats 16000000
set_option maxRecDepth 100000
namespace Go.Proofs.YtpoglnpjadmbpaaGreatDoor
open Go.RowKit Go.Sort
def srtI (l:List Int):List Int:=l.mergeSort fun x y=>decide (x<=y)
theorem ybpe (l:List Int):(srtI l).Perm l:=List.mergeSort_perm _ _
theorem ybut (v:Value) (l:List Int) (base:Nat) (w:World) (h:w.ownsRow base 3 1 v l.length (ints l)) (hl:l.length<=1000000):
  Calls Tryz.prog 40 #[v] w fun e w'=>e=.returned (.tuple #[])/\w'.ownsRow base 3 1 v l.length (ints (srtI l))/\w.grownBy w' v.ownBlock:=by
 have hlen:(srtI l).length=l.length:=(ybpe l).length_eq
 obtain⟨h0,⟨rfl,hn⟩ | ⟨g,cap,cur,rfl,hg,hh,hc,hm,hs,ht⟩⟩:=h
 ·have hnil:l=[]:=List.length_eq_zero_iff.1 hn
  subst hnil
  refine (Any.slices_Sort_int_none Tryz.lays189 none 0 w).mono fun e w' ⟨he,hw⟩=>⟨he,?_,?_⟩
  ·rw[hw]
   have e:srtI []=[]:=List.length_eq_zero_iff.1 hlen
   rw[e]
   exact World.ownsRow_nil _ _ _ _
  ·rw[hw];exact⟨rfl,rfl,rfl,Nat.le_refl _,fun _ _ _=>rfl⟩
 ·rw[Nat.mul_one]at ht
  have hH:=holds_of_blockI hh ht
  refine (Any.slices_Sort_int Tryz.lays189 g 0 cap l w hH (qac hh) (by omega)).mono fun e w' ⟨he,n,os,hw⟩=>⟨he,?_,?_⟩
  ·rw[hw]
   exact ownsRow_sortedI (by simp) hg hh hc hm hs
  ·rw[hw]
   exact grownBy_sortedI _
end Go.Proofs.YtpoglnpjadmbpaaGreatDoor
namespace Go.Proofs.YtpoglnpjadmbpaaGreatDoor
def nzF (l:List Int):List Int:=l.filter fun p=> !(p == 0)
theorem ybcw (a b:List Int):nzF (a++b)=nzF a++nzF b:=by unfold nzF;exact List.filter_append a b
theorem ybyu (l:List Int):(nzF l).length<=l.length:=List.length_filter_le _ _
def blkN (sz:Int):Nat:=(qcc sz).toNat
theorem ybwx (sz:Int):qcc sz=(blkN sz:Int):=by
 unfold blkN qcc
 split <;> omega
open Go.RowKit
theorem qnf {w:World} {b b':Nat} {e:TypeId} {k n:Nat} {v:Value} {xs:List Value} (h:w.ownsRow b e k v n xs) (hb:b'<=b):w.ownsRow b' e k v n xs:=by
 obtain⟨e1,h | ⟨g,cap,cur,hv,hg,r⟩⟩:=h
 ·exact⟨e1,Or.inl h⟩
 ·exact⟨e1,Or.inr ⟨g,cap,cur,hv,Nat.le_trans hb hg,r⟩⟩
theorem qbi {w w':World} {b:Nat} {e:TypeId} {k n:Nat} {v:Value} {xs:List Value} (h:w.ownsRow b e k v n xs) (hk:∀ q,v.ownBlock=some q->w'.heap[q]? = w.heap[q]?):w'.ownsRow b e k v n xs:=by
 obtain⟨h1,h2⟩:=h
 refine⟨h1,?_⟩
 rcases h2 with h2 | ⟨g,cap,cur,rfl,hg,hh,r⟩
 ·exact Or.inl h2
 ·exact Or.inr ⟨g,cap,cur,rfl,hg,(hk g rfl).trans hh,r⟩
theorem qef {w:World} {base:Nat} {e t:TypeId} {size n:Nat} {v:Value} {xs:List Value} {g:Nat} {cs:Array Value} {fr:Nat × Nat} (h:w.ownsRow base e size v n xs) (hg:w.heap[g]? = some (.cells cs t fr)) (hne:e ≠ t):∀ q,v.ownBlock=some q->q ≠ g:=by
 intro q hq hqg
 subst hqg
 obtain⟨_,⟨rfl,_⟩ | ⟨g',cap,cur,rfl,_,hh,_⟩⟩:=h
 ·simp[Value.ownBlock]at hq
 ·simp[Value.ownBlock]at hq
  subst hq
  rw[hh]at hg
  injection hg with hg
  injection hg with _ h2
  exact hne h2
def lenV (v:Value):Nat:=match v with | .slice _ n _=>n | _=>0
theorem ybia (l:List Int) (x:Int):ints (l++[x])=ints l++[.int .i64 x]:=by simp[ints]
structure Nd where
 k:Int
 m:Int
 u:Int
 g:Int
 s:Int
 l:Int
 up:Int
 q:Option Addr
 n:Nat
 c:Nat
def nd8 (x:Nd):List Value:=[.int .i64 x.k,.int .i64 x.m,.int .i64 x.u,.int .i64 x.g,.int .i64 x.s,.int .i64 x.l,.int .i64 x.up,.slice x.q x.n x.c]
def qax (E:List Nd):List Value:=E.flatMap nd8
theorem ybii (E:List Nd):(qax E).length=E.length*8:=by
 induction E with
 | nil=>rfl
 | cons x E ih=>simp only[qax,List.flatMap_cons,List.length_append,List.length_cons]at *;simp only[nd8,List.length_cons,List.length_nil];omega
theorem ybih (E:List Nd) (k:Nat) (hk:k<E.length) (j:Nat) (hj:j<8):(qax E)[k*8+j]? = (nd8 E[k])[j]? :=by
 induction E generalizing k with
 | nil=>simp at hk
 | cons x E ih=>
  have e:qax (x :: E)=nd8 x++qax E:=rfl
  have hl:(nd8 x).length=8:=rfl
  rw[e]
  cases k with
  | zero=>rw[List.getElem?_append_left (by rw[hl];omega),Nat.zero_mul,Nat.zero_add];rfl
  | succ k=>
   rw[List.getElem?_append_right (by rw[hl];omega),hl,show (k+1)*8+j - 8=k*8+j by omega]
   exact ih k (by simpa using hk)
theorem qcz {w:World} {g o:Nat} {E:List Nd} (hc:∀ (j:Nat) (x:Value),(qax E)[j]? = some x->w.cell? ⟨g,o+j,none⟩=some x) (k:Nat) (hk:k<E.length):
  w.cell? ⟨g,o+k*8,none⟩=some (.int .i64 E[k].k)/\w.cell? ⟨g,o+k*8+1,none⟩=some (.int .i64 E[k].m)/\w.cell? ⟨g,o+k*8+2,none⟩=some (.int .i64 E[k].u)/\w.cell? ⟨g,o+k*8+3,none⟩=some (.int .i64 E[k].g) /\
  w.cell? ⟨g,o+k*8+4,none⟩=some (.int .i64 E[k].s)/\w.cell? ⟨g,o+k*8+5,none⟩=some (.int .i64 E[k].l)/\w.cell? ⟨g,o+k*8+6,none⟩=some (.int .i64 E[k].up)/\w.cell? ⟨g,o+k*8+7,none⟩=some (.slice E[k].q E[k].n E[k].c):=by
 have h:=fun j hj v hv=>hc (k*8+j) v ((ybih E k hk j hj).trans hv)
 refine⟨h 0 (by omega) _ rfl,?_,?_,?_,?_,?_,?_,?_⟩
 ·rw[Nat.add_assoc];exact h 1 (by omega) _ rfl
 ·rw[Nat.add_assoc];exact h 2 (by omega) _ rfl
 ·rw[Nat.add_assoc];exact h 3 (by omega) _ rfl
 ·rw[Nat.add_assoc];exact h 4 (by omega) _ rfl
 ·rw[Nat.add_assoc];exact h 5 (by omega) _ rfl
 ·rw[Nat.add_assoc];exact h 6 (by omega) _ rfl
 ·rw[Nat.add_assoc];exact h 7 (by omega) _ rfl
theorem qel {w:World} {v:Value} {E:List Nd} (h:qai w v 8 E.length (qax E)):∃ p cp,v=.slice p E.length cp/\Hid (0<E.length->∃ g o,p=some ⟨g,o,none⟩/\g<w.heap.size/\∀ (j:Nat) (x:Value),(qax E)[j]? = some x->w.cell? ⟨g,o+j,none⟩=some x):=by
 obtain⟨_,⟨h0,a0,c0,rfl⟩ | ⟨g,o,cap,rfl,hc⟩⟩:=h
 ·exact⟨a0,c0,by rw[h0],fun h=>by omega⟩
 ·refine⟨_,cap,rfl,fun h0=>⟨g,o,rfl,?_,hc⟩⟩
  exact block_lt_of_cell (qcz hc 0 h0).1
def ybnb (x:Nd) (H:List Int) (i:Int):Bool:= !(x.k == 0) && (x.l == 0) && !(H.contains i)
def qid (E:List Nd) (H:List Int):Nat->List Int
 | 0=>[]
 | k+1=>qid E H k++(match E[k]? with | some x=>if ybnb x H ((k:Int)+1)=true then [(k:Int)+1] else [] | none=>[])
theorem ybie {E:List Nd} {H:List Int} {k:Nat} (hk:k<E.length):qid E H (k+1)=qid E H k++(if ybnb E[k] H ((k:Int)+1)=true then [(k:Int)+1] else []):=by
 rw[qid,List.getElem?_eq_getElem hk]
theorem qyz (E:List Nd) (H:List Int):∀ k,(qid E H k).length<=k
 | 0=>Nat.le_refl _
 | k+1=>by
  have ih:=qyz E H k
  rw[qid,List.length_append]
  split
  ·split <;> simp <;> omega
  ·simp;omega
theorem ybtj (v hv:Value) (E:List Nd) (H:List Int) (w:World) (h1:qai w v 8 E.length (qax E)) (h2:qao w hv H) (hl:E.length<=1000) (hl2:H.length<=1000000):
  Calls Tryz.prog 72 #[v,hv] w fun e w'=>∃ r,e=.returned r/\w'.ownsRow w.heap.size 3 1 r (qid E H E.length).length (ints (qid E H E.length))/\Below w.heap.size w w':=by
 obtain⟨p,cp,rfl,HP⟩:=qel h1
 obtain⟨N,HN⟩:∃ N,Hid (E.length=N):=⟨_,rfl⟩
 have H2:=Lib.hid h2
 obtain⟨ph,nh,ch,hvh⟩:∃ p n c,hv=.slice p n c:=by
  obtain⟨_,⟨h0,a0,c0,rfl⟩ | ⟨g,o,cap,rfl,hc⟩⟩:=h2
  ·exact⟨a0,_,c0,rfl⟩
  ·exact⟨_,_,cap,rfl⟩
 subst hvh
 rw[HN.out]at hl HP
 rw[HN.out]
 obtain⟨i0,hi0,hz0,hz1,hz2⟩:=info_parts qiv
 have HI0:=Lib.hid hi0
 have HIZ:=Lib.hid hz0
 have HI1:=Lib.hid hz1
 have HI2:=Lib.hid hz2
 clear h1 h2 hi0 hz0 hz1 hz2
 go_enter Tryz.func72,Tryz.ntmps72
 go_wp2
 go_loopw [5,10] (fun o i wr=>∃ k:Nat,k<=N/\i=.int .i64 k/\Hid (wr.ownsRow w.heap.size 3 1 o (qid E H k).length (ints (qid E H k)))/\Below w.heap.size w wr) (fun _ i _=>N - (intOf i).toNat)
 case atStart=>exact⟨0,Nat.zero_le _,rfl,World.ownsRow_nil _ _ _ _,Below.refl _ _⟩
 case round=>
  obtain⟨k,hk,rfl,HO,HB⟩:=hrel
  by_cases hlt:k<N
  ·obtain⟨g,o,rfl,hg,hc⟩:=HP.out (by omega)
   have hkl:k<E.length:=by rw[HN.out];exact hlt
   obtain⟨d0,d1,d2,d3,d4,d5,d6,d7⟩:=qcz hc k hkl
   have HST:=Lib.hid (ybie (H:=H) hkl)
   generalize E[k]=x at d0 d1 d2 d3 d4 d5 d6 d7 HST
   obtain⟨xk,xm,xu,xg,xs,xl,xup,xq,xn,xc⟩:=x
   have c0:=(HB.cell (p:=⟨g,o+k*8,none⟩) hg).trans d0
   have c1:=(HB.cell (p:=⟨g,o+k*8+1,none⟩) hg).trans d1
   have c2:=(HB.cell (p:=⟨g,o+k*8+2,none⟩) hg).trans d2
   have c3:=(HB.cell (p:=⟨g,o+k*8+3,none⟩) hg).trans d3
   have c4:=(HB.cell (p:=⟨g,o+k*8+4,none⟩) hg).trans d4
   have c5:=(HB.cell (p:=⟨g,o+k*8+5,none⟩) hg).trans d5
   have c6:=(HB.cell (p:=⟨g,o+k*8+6,none⟩) hg).trans d6
   have c7:=(HB.cell (p:=⟨g,o+k*8+7,none⟩) hg).trans d7
   dsimp only at c0 c1 c2 c3 c4 c5 c6 c7
   have hlt2:(k:Int)<(N:Int):=by omega
   have hgl:g<wr.heap.size:=Nat.lt_of_lt_of_le hg HB.size
   have hgn:¬ g=wr.heap.size:=by omega
   have hsz:=HB.size
   have hbk:Below w.heap.size w (wr.alloc (.cells #[.int .i64 xk,.int .i64 xm,.int .i64 xu,.int .i64 xg,.int .i64 xs,.int .i64 xl,.int .i64 xup,.slice xq xn xc] 103)):=HB.alloc hsz _
   have HBK:=Lib.hid hbk
   have HOA:=Lib.hid (fun o=>HO.out.alloc o)
   have hlt':=HO.out.lt
   have HLT:=Lib.hid (fun q hq=>(hlt' q hq).1)
   have hll:=qyz E H k
   have HNB:Hid (((wr.alloc (.cells #[.int .i64 xk,.int .i64 xm,.int .i64 xu,.int .i64 xg,.int .i64 xs,.int .i64 xl,.int .i64 xup,.slice xq xn xc] 103)).alloc (.cells #[.int .i64 ((k:Int)+1)] 3)).heap[wr.heap.size+1]? = some (.cells #[.int .i64 ((k:Int)+1)] 3 (0,0))):=by
    have:=heap_alloc_new (wr.alloc (.cells #[.int .i64 xk,.int .i64 xm,.int .i64 xu,.int .i64 xg,.int .i64 xs,.int .i64 xl,.int .i64 xup,.slice xq xn xc] 103)) (.cells #[.int .i64 ((k:Int)+1)] 3)
    rw[show (wr.alloc (.cells #[.int .i64 xk,.int .i64 xm,.int .i64 xu,.int .i64 xg,.int .i64 xs,.int .i64 xl,.int .i64 xup,.slice xq xn xc] 103)).heap.size=wr.heap.size+1 by simp]at this
    exact this
   have HCT:=Lib.hid (qpp (.slice ph nh ch) H ((k:Int)+1) _ (qai.below H2.out HBK.out) hl2)
   obtain⟨cb,HCB⟩:∃ cb,Hid (H.contains ((k:Int)+1)=cb):=⟨_,rfl⟩
   rw[HCB.out]at HCT
   have HST2:Hid (qid E H (k+1)=qid E H k++(if (!(xk == 0) && (xl == 0) && !cb)=true then [(k:Int)+1] else [])):=by
    show _=_
    rw[HST.out]
    unfold ybnb
    rw[HCB.out]
   clear hc d0 d1 d2 d3 d4 d5 d6 d7 hlt' hbk HST
   have NOT:Hid ((!(xk == 0) && (xl == 0) && !cb)=false->(wr.alloc (.cells #[.int .i64 xk,.int .i64 xm,.int .i64 xu,.int .i64 xg,.int .i64 xs,.int .i64 xl,.int .i64 xup,.slice xq xn xc] 103)).ownsRow w.heap.size 3 1 u5 (qid E H (k+1)).length (ints (qid E H (k+1)))):=fun hf=>by
    rw[HST2.out,hf,if_neg (by simp),List.append_nil]
    exact HOA.out _
   by_cases hk0:xk=0
   ·have b1:(xk == 0)=true:=by simpa using hk0
    have b2:(xk != 0)=false:=by simp[bne,b1]
    have HO1:=Lib.hid (NOT.out (by rw[b1];rfl))
    clear hk0
    go_wp2
    go_roundw
    case rel=>exact⟨k+1,by omega,by go_num,HO1,HBK.out⟩
    case measure=>simp[intOf];omega
   ·have b1:(xk == 0)=false:=by simpa using hk0
    have b2:(xk != 0)=true:=by simp[bne,b1]
    clear hk0
    by_cases hl0:xl=0
    ·have b3:(xl == 0)=true:=by simpa using hl0
     have b4:(xl != 0)=false:=by simp[bne,b3]
     clear hl0
     cases cb with
     | true=>
      have HO1:=Lib.hid (NOT.out (by simp))
      go_wp2_with fail
      refine HCT.out.mono ?_
      rintro e w' ⟨rfl,rfl⟩
      go_wp2
      go_roundw
      case rel=>exact⟨k+1,by omega,by go_num,HO1,HBK.out⟩
      case measure=>simp[intOf];omega
     | false=>
      have HST3:Hid (qid E H (k+1)=qid E H k++[(k:Int)+1]):=by
       show _=_
       rw[HST2.out,b1,b3]
       simp
      go_wp2_with fail
      refine HCT.out.mono ?_
      rintro e w' ⟨rfl,rfl⟩
      go_wp2_with (at_builtin;refine wpList_append_own _ rfl _ _ 32 rfl w.heap.size 3 i0 (.int .i64 0) 1 8 qpe HI0.out HIZ.out HI1.out HI2.out rfl (by decide) _ _ _ rfl ((HOA.out _).alloc _) ⟨_,0,none⟩ 1 1 [.int .i64 ((k:Int)+1)] rfl rfl (World.news_of_block (cs:=#[.int .i64 ((k:Int)+1)]) (t:=3) (fr:=(0,0)) HNB.out) (by simp[Value.oneCell']) (by unfold maxLen;omega) (by omega) (by simp;omega) ?_;intro v' w1 hown hgrow _)
      have HO1:Hid (w1.ownsRow w.heap.size 3 1 v' (qid E H (k+1)).length (ints (qid E H (k+1)))):=by
       show World.ownsRow _ _ _ _ _ _ _
       rw[HST3.out,List.length_append,ybia]
       exact hown
      have HB1:Below w.heap.size w w1:=Below.grown (HBK.out.alloc HBK.out.size _) hgrow (by simp;omega) HLT.out
      clear hown hgrow
      go_wp2
      go_roundw
      case rel=>exact⟨k+1,by omega,by go_num,HO1,HB1⟩
      case measure=>simp[intOf];omega
    ·have b3:(xl == 0)=false:=by simpa using hl0
     have b4:(xl != 0)=true:=by simp[bne,b3]
     have HO1:=Lib.hid (NOT.out (by rw[b3];simp))
     clear hl0
     go_wp2
     go_roundw
     case rel=>exact⟨k+1,by omega,by go_num,HO1,HBK.out⟩
     case measure=>simp[intOf];omega
  ·have hkn:k=N:=by omega
   subst hkn
   go_wp2
   go_ret
   exact⟨_,rfl,HO.out,HB⟩
end Go.Proofs.YtpoglnpjadmbpaaGreatDoor
