/- Part of the proofs of FsLinks: the texts Quota2, DkOps, Alike, Inode2, Quota14. -/
import Derived.Test.YtpoglnpjadmbpaaGreatDoorKA3
import Derived.Test.YtpoglnpjadmbpaaGreatDoorKA9
import Derived.Lib.BufferWrite
import Derived.Deep.RegionHeldLaw
import Derived.Deep.RegionHeld3
import Derived.Laws.StructEq
import Derived.Lib.Overlaps
import Derived.Laws.Externs
import Derived.Lib.AppendZerosOnto
import Derived.Lib.AppendZeros
import Derived.Deep.DeepAppendWide
set_option maxHeartbeats 16000000
set_option maxRecDepth 100000
namespace Go.Proofs.YtpoglnpjadmbpaaGreatDoor
open Go.RowKit
def okAt (l:List (Int × Int)) (i:Nat):Bool:=decide (0<=(l.getD i (0,0)).1) && decide ((l.getD i (0,0)).1<=255) && decide (0<=(l.getD i (0,0)).2) && decide ((l.getD i (0,0)).2<=256) && (decide (i=0) || decide ((l.getD (i - 1) (0,0)).1<(l.getD i (0,0)).1))
def okQ (l:List (Int × Int)):Bool:=(List.range l.length).all (okAt l)
def qda (l:List (Int × Int)):Int:=if 20<l.length then 2 else if okQ l=true then 0 else 3
theorem okQ_of {l:List (Int × Int)} (h:∀ i,i<l.length->okAt l i=true):okQ l=true:=by
 unfold okQ
 rw[List.all_eq_true]
 exact fun i hi=>h i (List.mem_range.1 hi)
theorem ybwk {l:List (Int × Int)} (h:okQ l=true) (i:Nat) (hi:i<l.length):okAt l i=true:=by
 unfold okQ at h
 rw[List.all_eq_true]at h
 exact h i (List.mem_range.2 hi)
theorem qhn (l:List (Int × Int)) (i:Nat):okAt l i=true ↔ (0<=(l.getD i (0,0)).1/\(l.getD i (0,0)).1<=255/\0<=(l.getD i (0,0)).2/\(l.getD i (0,0)).2<=256/\(i=0\/(l.getD (i - 1) (0,0)).1<(l.getD i (0,0)).1)):=by
 unfold okAt
 simp only[Bool.and_eq_true,Bool.or_eq_true,decide_eq_true_eq]
 constructor
 ·rintro ⟨⟨⟨⟨a,b⟩,c⟩,d⟩,e⟩;exact⟨a,b,c,d,e⟩
 ·rintro ⟨a,b,c,d,e⟩;exact⟨⟨⟨⟨a,b⟩,c⟩,d⟩,e⟩
theorem ybcf (l:List (Int × Int)) (i:Nat) (h:i<l.length):l.getD i (0,0)=l[i]:=by simp[h]
theorem quz (v:Value) (l:List (Int × Int)) (w:World) (h:qai w v 2 l.length (qbw l)) (hl:l.length<=1000000):
  Calls Tryz.prog 123 #[v] w fun e w'=>e=.returned (.int .i64 (qda l))/\Below w.heap.size w w':=by
 obtain⟨a,c,hv,HC⟩:=qva h
 obtain⟨n,HN⟩:∃ n,Hid (n=l.length):=⟨_,rfl⟩
 rw[<-HN.out]at hv hl
 subst hv
 have HCH:=Lib.hid HC
 clear HC h
 by_cases h20:20<n
 ·have HF:Hid (qda l=2):=by show _=_;unfold qda;rw[<-HN.out,if_pos h20]
  go_enter Tryz.func123,Tryz.ntmps123
  go_wp2
  go_ret
  rw[HF.out]
  exact⟨rfl,Below.refl _ _⟩
 ·go_enter Tryz.func123,Tryz.ntmps123
  go_wp2
  go_loopw [10] (fun i wr=>∃ k:Nat,k<=n/\i=.int .i64 k/\Hid (∀ j,j<k->okAt l j=true)/\Below w.heap.size w wr) (fun i _=>n - (intOf i).toNat)
  case atStart=>exact⟨0,by omega,rfl,fun j hj=>by omega,Below.refl _ _⟩
  case round=>
   obtain⟨k,hk,rfl,HO,HB⟩:=hrel
   by_cases hlt:k<n
   ·have hkl:k<l.length:=by rw[<-HN.out];exact hlt
    obtain⟨g,o,rfl,hg,hc⟩:=HCH.out (by omega)
    obtain⟨x,Hx⟩:∃ x,Hid (x=l[k].1):=⟨l[k].1,rfl⟩
    obtain⟨y,Hy⟩:∃ y,Hid (y=l[k].2):=⟨l[k].2,rfl⟩
    have c0:wr.cell? ⟨g,o+k*2,none⟩=some (.int .i64 x):=by rw[HB.cell (p:=⟨g,o+k*2,none⟩) hg,(hc k hkl).1,Hx.out]
    have c1:wr.cell? ⟨g,o+k*2+1,none⟩=some (.int .i64 y):=by rw[HB.cell (p:=⟨g,o+k*2+1,none⟩) hg,(hc k hkl).2,Hy.out]
    have HG:Hid (l.getD k (0,0)=(x,y)):=by show _=_;rw[ybcf l k hkl,Hx.out,Hy.out]
    have HBAD:Hid (okAt l k=false->qda l=3):=fun hb=>by
     unfold qda
     rw[<-HN.out,if_neg h20,if_neg]
     intro ho
     rw[ybwk ho k hkl]at hb
     cases hb
    have hgw:g<wr.heap.size:=Nat.lt_of_lt_of_le hg HB.size
    have HCC:=Lib.hid hc
    clear hc
    by_cases a0:x<0
    ·have HF:Hid (qda l=3):=HBAD.out (by
      cases hb:okAt l k with
      | false=>rfl
      | true=>exfalso;have:=(qhn l k).1 hb;rw[HG.out]at this;simp only at this;omega)
     go_wp2
     go_quiet (fail)
     go_wp2
     go_ret
     rw[HF.out]
     exact⟨rfl,below_drewN (HB.alloc HB.size _) _⟩
    have na0:0<=x:=by omega
    have da0:decide (x<0)=false:=decide_eq_false a0
    have Ha0:=Lib.hid a0
    clear a0
    by_cases a1:255<x
    ·have HF:Hid (qda l=3):=HBAD.out (by
      cases hb:okAt l k with
      | false=>rfl
      | true=>exfalso;have:=(qhn l k).1 hb;rw[HG.out]at this;simp only at this;omega)
     go_wp2
     go_quiet (fail)
     go_wp2
     go_ret
     rw[HF.out]
     exact⟨rfl,below_drewN (HB.alloc HB.size _) _⟩
    have na1:x<=255:=by omega
    have da1:decide (255<x)=false:=decide_eq_false a1
    have Ha1:=Lib.hid a1
    clear a1
    by_cases a2:y<0
    ·have HF:Hid (qda l=3):=HBAD.out (by
      cases hb:okAt l k with
      | false=>rfl
      | true=>exfalso;have:=(qhn l k).1 hb;rw[HG.out]at this;simp only at this;omega)
     go_wp2
     go_quiet (fail)
     go_wp2
     go_ret
     rw[HF.out]
     exact⟨rfl,below_drewN (HB.alloc HB.size _) _⟩
    have na2:0<=y:=by omega
    have da2:decide (y<0)=false:=decide_eq_false a2
    have Ha2:=Lib.hid a2
    clear a2
    by_cases a3:256<y
    ·have HF:Hid (qda l=3):=HBAD.out (by
      cases hb:okAt l k with
      | false=>rfl
      | true=>exfalso;have:=(qhn l k).1 hb;rw[HG.out]at this;simp only at this;omega)
     go_wp2
     go_quiet (fail)
     go_wp2
     go_ret
     rw[HF.out]
     exact⟨rfl,below_drewN (HB.alloc HB.size _) _⟩
    have na3:y<=256:=by omega
    have da3:decide (256<y)=false:=decide_eq_false a3
    have Ha3:=Lib.hid a3
    clear a3
    by_cases hk0:k=0
    ·subst hk0
     have c00:wr.cell? ⟨g,o,none⟩=some (.int .i64 x):=by simpa using c0
     have c10:wr.cell? ⟨g,o+1,none⟩=some (.int .i64 y):=by simpa using c1
     have HO2:Hid (∀ j,j<0+1->okAt l j=true):=fun j hj=>by
      obtain rfl:j=0:=by omega
      rw[qhn,HG.out]
      exact⟨na0,na1,na2,na3,Or.inl rfl⟩
     go_wp2
     go_quiet (fail)
     go_wp2
     go_roundw
     case rel=>exact⟨0+1,by omega,by go_num,HO2,below_drewN (HB.alloc HB.size _) _⟩
     case measure=>simp[intOf];omega
    ·obtain⟨j,rfl⟩:∃ j,k=j+1:=⟨k - 1,by omega⟩
     obtain⟨z,Hz⟩:∃ z,Hid (z=(l[j]'(by omega)).1):=⟨(l[j]'(by omega)).1,rfl⟩
     have cz:wr.cell? ⟨g,o+j*2,none⟩=some (.int .i64 z):=by rw[HB.cell (p:=⟨g,o+j*2,none⟩) hg,(HCC.out j (by omega)).1,Hz.out]
     have HGZ:Hid ((l.getD j (0,0)).1=z):=by show _=_;rw[ybcf l j (by omega),Hz.out]
     have hj1:IntKind.i64.wrap (((j:Int)+1) - 1)=(j:Int):=by rw[IntWalk.i64_in _ (by omega)];omega
     have hj0:(0:Int)<(j:Int)+1:=by omega
     have dj0:decide ((0:Int)<(j:Int)+1)=true:=decide_eq_true hj0
     have hj2:(j:Int)+1 - 1=(j:Int):=by omega
     have hjn:(j:Int)<(n:Int):=by omega
     clear hk0
     by_cases hzx:z<x
     ·have dzx:decide (x<=z)=false:=decide_eq_false (by omega)
      have HO2:Hid (∀ i,i<j+1+1->okAt l i=true):=fun i hi=>by
       by_cases e:i=j+1
       ·subst e
        rw[qhn,HG.out]
        refine⟨na0,na1,na2,na3,Or.inr ?_⟩
        rw[Nat.add_sub_cancel,HGZ.out]
        exact hzx
       ·exact HO.out i (by omega)
      go_wp2
      go_quiet (fail)
      go_wp2
      go_roundw
      case rel=>exact⟨j+1+1,by omega,by go_num,HO2,below_drewN (HB.alloc HB.size _) _⟩
      case measure=>simp[intOf];omega
     ·have hxz:x<=z:=by omega
      have dzx:decide (x<=z)=true:=decide_eq_true hxz
      have HF:Hid (qda l=3):=HBAD.out (by
       cases hb:okAt l (j+1) with
       | false=>rfl
       | true=>
        exfalso
        have:=(qhn l (j+1)).1 hb
        rw[HG.out,Nat.add_sub_cancel,HGZ.out]at this
        simp only at this
        omega)
      have HZX:=Lib.hid hzx
      clear hzx
      go_wp2
      go_quiet (fail)
      go_wp2
      go_ret
      rw[HF.out]
      exact⟨rfl,below_drewN (HB.alloc HB.size _) _⟩
   ·have HF:Hid (qda l=0):=by
     show _=_
     unfold qda
     rw[<-HN.out,if_neg h20,if_pos (okQ_of fun i hi=>HO.out i (by rw[<-HN.out]at hi;omega))]
    go_wp2
    go_ret
    rw[HF.out]
    exact⟨rfl,HB⟩
theorem qtd : (Tryz.prog.info? 5).map (fun i=>(i.zero,i.size,i.bytes))=some (some (.int .u8 0),1,1):=by kernel_rfl
theorem u8sT : Tryz.prog.underlying 38=some (.slice 5):=by kernel_rfl
theorem qlb : (Tryz.prog.info? 5).map (·.size)=some 1:=by kernel_rfl
def qes (D:List Int) (w:World) (v:Value) (w':World):Prop:=
 ∃ g cap cur,v=.slice (some ⟨g,0,none⟩) D.length cap/\(w.heap.size<=g/\D.length<=cap)/\w'.heap[g]? = some (.cells cur 5 (0,0))/\cur.toList.take D.length=u8s D/\Below w.heap.size w w'
theorem qav {w:World} {g n cap:Nat} {cur:Array Value} {t:TypeId} {fr:Nat × Nat} {D:List Int} (hn:D.length=n) (h:w.heap[g]? = some (.cells cur t fr)) (hc:cur.toList.take n=u8s D):
  qaf w (.slice (some ⟨g,0,none⟩) n cap) D:=by
 refine⟨by rw[qal];omega,Or.inr ⟨g,0,cap,by rw[hn],fun j x hx=>?_⟩⟩
 rw[Nat.zero_add,cell_of_row _ _ j _ t fr h]
 have hj:=(List.getElem?_eq_some_iff.1 hx).1
 rw[qal]at hj
 rw[<-hc,List.getElem?_take,if_pos (by omega)]at hx
 simpa using hx
theorem qes.at {D:List Int} {w w':World} {v:Value} (h:qes D w v w'):qaf w' v D:=by
 obtain⟨g,cap,cur,rfl,_,h1,h2,_⟩:=h
 exact qav rfl h1 h2
theorem qes.below {D:List Int} {w w':World} {v:Value} (h:qes D w v w'):Below w.heap.size w w':=by
 obtain⟨g,cap,cur,rfl,_,h1,h2,h3⟩:=h
 exact h3
def qfm (D:List Int) (w:World) (e:Ending) (w':World):Prop:=∃ v,e=.returned v/\qes D w v w'
theorem qgr (v:Value) (D:List Int) (w:World) (h:qaf w v D) (h0:0<D.length) (h1:D.length<=1000000):
  Calls Tryz.prog 98 #[v] w (qfm D w):=by
 obtain⟨hl,⟨hn,_⟩ | ⟨g,o,c,rfl,hc⟩⟩:=h
 ·omega
 obtain⟨i0,hi,hz0,hz1,hz2⟩:=info_parts qtd
 have HI:=Lib.hid hi
 have HZ0:=Lib.hid hz0
 have HZ1:=Lib.hid hz1
 have HZ2:=Lib.hid hz2
 clear hi hz0 hz1 hz2
 have HC:=Lib.hid hc
 obtain⟨n,HN⟩:∃ n,Hid (n=D.length):=⟨_,rfl⟩
 rw[<-HN.out]at h0 h1 ⊢
 clear hc hl
 have q22:∀ (w:World) (a:Option Addr) (n c n' c':Nat),(binOp .eql 38 (.slice a n c) (.slice none n' c')).run Tryz.prog w=.ok (.bool a.isNone) w:=fun w a n c n' c'=>Lib.run_eql_slice_nil w _ _ a n c n' c' u8sT
 go_enter Tryz.func98,Tryz.ntmps98
 go_wp2_with (at_builtin;refine wpList_append_own _ rfl _ _ 38 rfl w.heap.size 5 i0 (.int .u8 0) 1 1 u8sT HI.out HZ0.out HZ1.out HZ2.out rfl (by decide) _ _ _ rfl (World.ownsRow_made w #[] 0 (Nat.le_refl _) (Nat.zero_le _) rfl) ⟨g,o,none⟩ n c (u8s D) rfl ?qc1 ?qc2 ?qc3 ?qc4 ?qc5 ?qc6 ?_)
 case qc1=>rw[qal,<-HN.out];omega
 case qc2=>
  intro j u hj
  have hadd:(⟨g,o,none⟩:Addr).add j=⟨g,o+j,none⟩:=by unfold Addr.add;split <;> simp_all
  rw[hadd]
  have:=HC.out j u hj
  rw[World.cell?_alloc_lt _ _ _ (block_lt_of_cell this)]
  exact this
 case qc3=>exact qga D
 case qc4=>unfold maxLen;omega
 case qc5=>omega
 case qc6=>simp
 intro v' w1 hown hgrow hnil
 go_wp2
 go_ret
 refine⟨v',rfl,?_⟩
 obtain⟨_,⟨_,e0⟩ | ⟨g',cap,cur,rfl,hg',hh,hcp,_,_,ht⟩⟩:=hown
 ·omega
 ·refine⟨g',cap,cur,by rw[HN.out],⟨hg',by rw[<-HN.out];exact hcp⟩,hh,by rw[<-HN.out];simpa using ht,?_⟩
  exact ((Below.refl _ w).alloc (Nat.le_refl _) _).grown hgrow (by simp) (by intro k hk;simp[Value.ownBlock]at hk;omega)
section
variable {w : World} {gd gs gn : Nat} {wt : Value} {E : List (Nat × Value)} {st : Dk} {L k : Nat} {F : Nat -> Prop}
theorem Lies.c0 (h:Lies w gd gs gn wt E st L k F):w.cell? ⟨gd,0,none⟩=some (.slice (some ⟨gs,0,none⟩) L L):=cell_of_row _ _ _ _ _ _ h.hd
theorem Lies.c1 (h:Lies w gd gs gn wt E st L k F):w.cell? ⟨gd,1,none⟩=some (.slice (some ⟨gn,0,none⟩) L L):=cell_of_row _ _ _ _ _ _ h.hd
theorem Lies.c2 (h:Lies w gd gs gn wt E st L k F):w.cell? ⟨gd,2,none⟩=some wt:=cell_of_row _ _ _ _ _ _ h.hd
theorem Lies.c3 (h:Lies w gd gs gn wt E st L k F):w.cell? ⟨gd,3,none⟩=some (.int .i64 st.fu):=cell_of_row _ _ _ _ _ _ h.hd
theorem Lies.z (h:Lies w gd gs gn wt E st L k F) (i:Nat):w.frozen? ⟨gd,i,none⟩=false:=by simp[World.frozen?,h.hd]
theorem qnq (h:Lies w gd gs gn wt E st L k F):Calls Tryz.prog 41 #[.pointer (some ⟨gd,0,none⟩)] w fun e w'=>e=.returned (.int .i64 (k:Int))/\w=w':=by
 have c1:=h.c1
 have hl:=h.hL
 have h1:=h.k1
 have HL:=Lib.hid hl
 have hb:L<=1000000:=by omega
 clear h hl
 go_enter Tryz.func41,Tryz.ntmps41
 go_wp2
 go_ret
 have:=HL.out
 exact⟨ret_i (by omega),rfl⟩
def decF (f:Int):Int:=if 0<f then f - 1 else f
theorem qym (h:Lies w gd gs gn wt E st L k F) (hf:st.fu=0):Calls Tryz.prog 113 #[.pointer (some ⟨gd,0,none⟩)] w fun e w'=>e=.returned (.bool false)/\w=w':=by
 have c3:=h.c3
 rw[hf]at c3
 clear h hf
 go_enter Tryz.func113,Tryz.ntmps113
 go_wp2
 go_ret
 exact⟨rfl,rfl⟩
theorem qyn (h:Lies w gd gs gn wt E st L k F) (hf:st.fu ≠ 0):Calls Tryz.prog 113 #[.pointer (some ⟨gd,0,none⟩)] w fun e w'=>e=.returned (.bool true)/\Lies w' gd gs gn wt E { st with fu:=decF st.fu } L k F/\qab F w w':=by
 have c3:=h.c3
 have z3:=h.z 3
 have hg:=h.f0
 have hg1:=h.f1
 have H:=Lib.hid h
 obtain⟨f,HF⟩:∃ f,Hid (f=st.fu):=⟨_,rfl⟩
 rw[<-HF.out]at c3 hf hg hg1 ⊢
 clear h
 by_cases hp:0<f
 ·have hb:(f == 0)=false:=by simpa using hf
  clear hf
  go_enter Tryz.func113,Tryz.ntmps113
  go_wp2
  go_ret
  have e:decF f=f - 1:=by unfold decF;rw[if_pos hp]
  rw[e]
  exact⟨rfl,H.out.setFu _ (by omega) (by omega),qab.setCell H.out.fd _⟩
 ·have hb:(f == 0)=false:=by simpa using hf
  clear hf
  go_enter Tryz.func113,Tryz.ntmps113
  go_wp2
  go_ret
  have e:decF f=f:=by unfold decF;rw[if_neg (by omega)]
  rw[e]
  have e2:({ st with fu:=f }:Dk)=st:=by rw[HF.out]
  rw[e2]
  exact⟨rfl,H.out,qab.refl _ _⟩
theorem yblc {g n:Nat} {l:List Int} {t:TypeId} {fr:Nat × Nat} {c:Nat} (hl:l.length=64*k) (hn:n<k) (h:w.heap[g]? = some (.cells (u8s l).toArray t fr)):
  qaf w (.slice (some ⟨g,n*64,none⟩) 64 c) (sec l n):=by
 refine⟨by rw[qal];omega,Or.inr ⟨g,n*64,c,by rw[qhu hl hn],fun j x hx=>?_⟩⟩
 rw[cell_of_row _ _ _ _ t fr h]
 have hj:=(List.getElem?_eq_some_iff.1 hx).1
 rw[qal,qhu hl hn]at hj
 unfold sec at hx
 rw[qdf,qdq,List.getElem?_take,if_pos hj,List.getElem?_drop]at hx
 rw[List.getElem?_toArray,Nat.mul_comm]
 exact hx
def qqw (D:List Int) (w:World) (e:Ending) (w':World):Prop:=∃ v,e=.returned (.tuple #[v,.int .i64 0])/\qes D w v w'
theorem yboq (h:Lies w gd gs gn wt E st L k F) (n:Nat) (hn:n<k):Calls Tryz.prog 69 #[.pointer (some ⟨gd,0,none⟩),.int .i64 (n:Int)] w (qqw (sec st.N n) w):=by
 have c1:=h.c1
 have hl:st.N.length=64*k:=by rw[h.ln,h.hL]
 have h4:=h.k1
 have HB:Hid (∀ c,qaf w (.slice (some ⟨gn,n*64,none⟩) 64 c) (sec st.N n)):=fun c=>yblc hl hn h.hn
 have HS:Hid ((sec st.N n).length=64):=qhu hl hn
 have H:=Lib.hid h
 have hL:64*k<=L:=by have:=h.hL;omega
 have hL1:L<=64*k:=by have:=h.hL;omega
 clear h hl
 have hn1:¬ (k:Int)<=(n:Int):=by omega
 have hn2:(0:Int)<=(n:Int):=by omega
 have hn3:((n:Int)+1)*64<=(L:Int):=by omega
 have hcap:¬ L=n*64:=by omega
 go_enter Tryz.func69,Tryz.ntmps69
 go_wp2_with fail
 refine (qnq H.out).mono ?_
 rintro e w' ⟨rfl,rfl⟩
 go_wp2_with fail
 rw[show (n+1)*64 - n*64=64 by omega]
 refine (qgr _ _ _ (HB.out _) (by rw[HS.out];omega) (by rw[HS.out];omega)).mono ?_
 rintro e w' ⟨v,rfl,hv⟩
 go_wp2
 go_ret2
 exact⟨v,rfl,hv⟩
end
def qjk (w:World) (B1 B2:Nat) (k m u g s l up:Int) (v1 v2:Value) (P:List Int) (W:World):Prop:=
 W.heap[B1]? = some (.cells #[.int .i64 k,.int .i64 m,.int .i64 u,.int .i64 g,.int .i64 s,.int .i64 l,.int .i64 up,v1] 103 (0,0))/\W.heap[B2]? = some (.cells #[.int .i64 k,.int .i64 m,.int .i64 u,.int .i64 g,.int .i64 s,.int .i64 l,.int .i64 up,v2] 103 (0,0))/\Below w.heap.size w W/\qao W v1 P/\qao W v2 P
theorem qjk.below {w:World} {B1 B2:Nat} {k m u g s l up:Int} {v1 v2:Value} {P:List Int} {W W':World} (h:qjk w B1 B2 k m u g s l up v1 v2 P W) (hb:Below W.heap.size W W'):qjk w B1 B2 k m u g s l up v1 v2 P W':=
 ⟨qaa hb h.1,qaa hb h.2.1,Below.step h.2.2.1 hb,qai.below h.2.2.2.1 hb,qai.below h.2.2.2.2 hb⟩
theorem qpg {W:World} {B:Nat} {k m u g s l up:Int} {v:Value} {t:TypeId} (h:W.heap[B]? = some (.cells #[.int .i64 k,.int .i64 m,.int .i64 u,.int .i64 g,.int .i64 s,.int .i64 l,.int .i64 up,v] t (0,0))):W.cell? ⟨B,0,none⟩=some (.int .i64 k)/\W.cell? ⟨B,1,none⟩=some (.int .i64 m)/\W.cell? ⟨B,2,none⟩=some (.int .i64 u)/\W.cell? ⟨B,3,none⟩=some (.int .i64 g)/\W.cell? ⟨B,4,none⟩=some (.int .i64 s)/\W.cell? ⟨B,5,none⟩=some (.int .i64 l)/\W.cell? ⟨B,6,none⟩=some (.int .i64 up)/\W.cell? ⟨B,7,none⟩=some v:=by
 have c:=fun j=>cell_of_row W B j _ t (0,0) h
 exact⟨c 0,c 1,c 2,c 3,c 4,c 5,c 6,c 7⟩
theorem qjk.cells {w:World} {B1 B2:Nat} {k m u g s l up:Int} {v1 v2:Value} {P:List Int} {W:World} (h:qjk w B1 B2 k m u g s l up v1 v2 P W):
  (W.cell? ⟨B1,0,none⟩=some (.int .i64 k)/\W.cell? ⟨B1,1,none⟩=some (.int .i64 m)/\W.cell? ⟨B1,2,none⟩=some (.int .i64 u)/\W.cell? ⟨B1,3,none⟩=some (.int .i64 g)/\W.cell? ⟨B1,4,none⟩=some (.int .i64 s)/\W.cell? ⟨B1,5,none⟩=some (.int .i64 l)/\W.cell? ⟨B1,6,none⟩=some (.int .i64 up)/\W.cell? ⟨B1,7,none⟩=some v1)/\(W.cell? ⟨B2,0,none⟩=some (.int .i64 k)/\W.cell? ⟨B2,1,none⟩=some (.int .i64 m)/\W.cell? ⟨B2,2,none⟩=some (.int .i64 u)/\W.cell? ⟨B2,3,none⟩=some (.int .i64 g)/\W.cell? ⟨B2,4,none⟩=some (.int .i64 s)/\W.cell? ⟨B2,5,none⟩=some (.int .i64 l)/\W.cell? ⟨B2,6,none⟩=some (.int .i64 up)/\W.cell? ⟨B2,7,none⟩=some v2):=⟨qpg h.1,qpg h.2.1⟩
def qoz (P:List Int):Nat:=(P.filter fun p=> !(p == 0)).length
theorem ybjv (P:List Int) (p:Int):qoz (P++[p])=qoz P+(if (p == 0)=true then 0 else 1):=by
 unfold qoz
 rw[List.filter_append,List.length_append]
 cases h:(p == 0) <;> simp[h]
theorem ybgn (P:List Int):qoz P<=P.length:=List.length_filter_le _ _
theorem ybvo (k m u g s l up:Int) (v:Value) (P:List Int) (w:World) (h:qao w v P) (hl:P.length<=1000000):
  Calls Tryz.prog 99 #[.agg #[.int .i64 k,.int .i64 m,.int .i64 u,.int .i64 g,.int .i64 s,.int .i64 l,.int .i64 up,v]] w fun e w'=>e=.returned (.int .i64 (qoz P:Int))/\Below w.heap.size w w':=by
 obtain⟨N,HN⟩:∃ N,Hid (N=P.length):=⟨_,rfl⟩
 obtain⟨p,cp,hu,HP⟩:∃ p cp,v=.slice p N cp/\Hid (∀ W:World,Below w.heap.size w W->0<N->∃ g o,p=some ⟨g,o,none⟩/\∀ j (hj:j<P.length),W.cell? ⟨g,o+j,none⟩=some (.int .i64 P[j])):=by
  rw[HN.out]
  obtain⟨_,⟨h0,a0,c0,rfl⟩ | ⟨g,o,cap,rfl,hc⟩⟩:=h
  ·exact⟨a0,c0,by rw[h0],fun _ _ h=>by omega⟩
  ·refine⟨_,cap,rfl,fun W hb _=>⟨g,o,rfl,fun j hj=>?_⟩⟩
   have:=hc _ _ (qdn P j hj)
   exact (hb.cell (block_lt_of_cell this)).trans this
 rw[<-HN.out]at hl
 subst hu
 clear h
 have HA:Below w.heap.size w (w.alloc (.cells #[.int .i64 k,.int .i64 m,.int .i64 u,.int .i64 g,.int .i64 s,.int .i64 l,.int .i64 up,.slice p N cp] 103)):=(Below.refl _ _).alloc (Nat.le_refl _) _
 go_enter Tryz.func99,Tryz.ntmps99
 go_wp2
 go_loop [3,9] (fun c i=>∃ k:Nat,k<=N/\i=.int .i64 k/\∃ x:Nat,x<=k/\c=.int .i64 x/\Hid (x=qoz (P.take k))) (fun _ i=>N - (intOf i).toNat)
 case atStart=>exact⟨0,Nat.zero_le _,rfl,0,Nat.zero_le _,rfl,rfl⟩
 case round=>
  obtain⟨k,hk,rfl,x,hx,rfl,HX⟩:=hrel
  by_cases hlt:k<N
  ·obtain⟨g,o,rfl,hc⟩:=HP.out _ HA (by omega)
   have hkl:k<P.length:=by rw[<-HN.out];exact hlt
   have c1:=hc k hkl
   obtain⟨y,hy⟩:∃ y,Hid (y=P[k]):=⟨P[k],rfl⟩
   rw[<-hy.out]at c1
   have HT:Hid (qoz (P.take (k+1))=x+(if (y == 0)=true then 0 else 1)):=by
    show _=_
    rw[<-List.take_append_getElem hkl,ybjv,<-HX.out,<-hy.out]
   have HC:=Lib.hid hc
   clear hc
   have hlt2:(k:Int)<(N:Int):=by omega
   by_cases hy0:y=0
   ·subst hy0
    have HT2:Hid (x=qoz (P.take (k+1))):=by rw[HT.out];simp[Hid]
    go_wp2
    go_round
    case rel=>exact⟨k+1,by omega,by go_num,x,by omega,rfl,HT2⟩
    case measure=>simp[intOf];omega
   ·have b1:(y == 0)=false:=by simpa using hy0
    have b2:(y != 0)=true:=by simpa using hy0
    have HT2:Hid (x+1=qoz (P.take (k+1))):=by rw[HT.out,b1];simp[Hid]
    have HY:=Lib.hid hy0
    clear hy0
    go_wp2
    go_round
    case rel=>exact⟨k+1,by omega,by go_num,x+1,by omega,by go_num,HT2⟩
    case measure=>simp[intOf];omega
  ·have HF:Hid (x=qoz P):=by
    have:=HX.out
    rw[List.take_of_length_le (by rw[<-HN.out];omega)]at this
    exact this
   go_wp2
   go_ret
   rw[HF.out]
   exact⟨rfl,HA⟩
theorem ybuu (k m u g s l up:Int) (v:Value) (w:World):
  Calls Tryz.prog 64 #[.agg #[.int .i64 k,.int .i64 m,.int .i64 u,.int .i64 g,.int .i64 s,.int .i64 l,.int .i64 up,v]] w fun e w'=>e=.returned (.agg #[.int .i64 k,.int .i64 m,.int .i64 u,.int .i64 g,.int .i64 s,.int .i64 l])/\Below w.heap.size w w':=by
 go_enter Tryz.func64,Tryz.ntmps64
 go_wp2
 refine bodyPost_ret (v:=.agg #[.int .i64 k,.int .i64 m,.int .i64 u,.int .i64 g,.int .i64 s,.int .i64 l]) (by simp[results,Tryz.results64,go_sem]) rfl ⟨rfl,?_⟩
 exact ((Below.refl _ _).alloc (Nat.le_refl _) _).alloc (by simp) _
def qqs (w:World) (B1 B2:Nat) (k m u g s l up:Int) (v1 v2:Value) (P:List Int) (W:World):Prop:=
 W.heap[B1]? = some (.cells #[.int .i64 k,.int .i64 m,.int .i64 u,.int .i64 g,.int .i64 s,.int .i64 l,.int .i64 up,v1] 103 (0,0))/\W.heap[B2]? = some (.cells #[.int .i64 k,.int .i64 m,.int .i64 u,.int .i64 g,.int .i64 s,.int .i64 l,.int .i64 up,v2] 103 (0,0))/\Below w.heap.size w W/\qao W v1 P/\qao W v2 P
theorem qqs.below {w:World} {B1 B2:Nat} {k m u g s l up:Int} {v1 v2:Value} {P:List Int} {W W':World} (h:qqs w B1 B2 k m u g s l up v1 v2 P W) (hb:Below W.heap.size W W'):qqs w B1 B2 k m u g s l up v1 v2 P W':=
 ⟨qaa hb h.1,qaa hb h.2.1,Below.step h.2.2.1 hb,qai.below h.2.2.2.1 hb,qai.below h.2.2.2.2 hb⟩
theorem qag {W:World} {B:Nat} {k m u g s l up:Int} {v:Value} {t:TypeId} (h:W.heap[B]? = some (.cells #[.int .i64 k,.int .i64 m,.int .i64 u,.int .i64 g,.int .i64 s,.int .i64 l,.int .i64 up,v] t (0,0))):W.cell? ⟨B,0,none⟩=some (.int .i64 k)/\W.cell? ⟨B,1,none⟩=some (.int .i64 m)/\W.cell? ⟨B,2,none⟩=some (.int .i64 u)/\W.cell? ⟨B,3,none⟩=some (.int .i64 g)/\W.cell? ⟨B,4,none⟩=some (.int .i64 s)/\W.cell? ⟨B,5,none⟩=some (.int .i64 l)/\W.cell? ⟨B,6,none⟩=some (.int .i64 up)/\W.cell? ⟨B,7,none⟩=some v:=by
 have c:=fun j=>cell_of_row W B j _ t (0,0) h
 exact⟨c 0,c 1,c 2,c 3,c 4,c 5,c 6,c 7⟩
theorem qqs.cells {w:World} {B1 B2:Nat} {k m u g s l up:Int} {v1 v2:Value} {P:List Int} {W:World} (h:qqs w B1 B2 k m u g s l up v1 v2 P W):
  (W.cell? ⟨B1,0,none⟩=some (.int .i64 k)/\W.cell? ⟨B1,1,none⟩=some (.int .i64 m)/\W.cell? ⟨B1,2,none⟩=some (.int .i64 u)/\W.cell? ⟨B1,3,none⟩=some (.int .i64 g)/\W.cell? ⟨B1,4,none⟩=some (.int .i64 s)/\W.cell? ⟨B1,5,none⟩=some (.int .i64 l)/\W.cell? ⟨B1,6,none⟩=some (.int .i64 up)/\W.cell? ⟨B1,7,none⟩=some v1)/\(W.cell? ⟨B2,0,none⟩=some (.int .i64 k)/\W.cell? ⟨B2,1,none⟩=some (.int .i64 m)/\W.cell? ⟨B2,2,none⟩=some (.int .i64 u)/\W.cell? ⟨B2,3,none⟩=some (.int .i64 g)/\W.cell? ⟨B2,4,none⟩=some (.int .i64 s)/\W.cell? ⟨B2,5,none⟩=some (.int .i64 l)/\W.cell? ⟨B2,6,none⟩=some (.int .i64 up)/\W.cell? ⟨B2,7,none⟩=some v2):=⟨qag h.1,qag h.2.1⟩
def qrm (l:List (Int × Int)):List Int:=l.flatMap fun x=>[x.1,x.2 % 256,x.2 / 256]
theorem qye (l:List (Int × Int)):(qrm l).length=l.length*3:=by
 induction l with
 | nil=>rfl
 | cons x l ih=>simp only[qrm,List.flatMap_cons,List.length_append,List.length_cons,List.length_nil]at *;omega
theorem qyd (a b:List (Int × Int)):qrm (a++b)=qrm a++qrm b:=by simp[qrm]
def qfh (n:Int) (l:List (Int × Int)):List Int:=n :: (qrm l++List.replicate (63 - l.length*3) 0)
theorem qng (n:Int) (l:List (Int × Int)) (h:l.length<=20):(qfh n l).length=64:=by
 have:=qye l
 simp[qfh];omega
theorem yboi (n:Int) (l:List (Int × Int)) (x:Int × Int) (h:l.length<20):
  (((byts (qfh n l)).setIfInBounds (l.length*3+1) (.int .u8 x.1)).setIfInBounds (l.length*3+2) (.int .u8 (x.2 % 256))).setIfInBounds (l.length*3+3) (.int .u8 (x.2 / 256))=byts (qfh n (l++[x])):=by
 have h1:=qye l
 unfold byts qfh
 rw[qyd,List.length_append,show 63 - l.length*3=(60 - l.length*3)+1+1+1 by omega,List.replicate_succ,List.replicate_succ,List.replicate_succ,show 63 - (l.length+[x].length)*3=60 - l.length*3 by simp;omega]
 simp only[List.setIfInBounds_toArray,List.map_append,List.map_cons,List.set_cons_succ]
 rw[List.set_append_right _ _ (by simp;omega)]
 rw[show l.length*3 - (List.map (fun n=>Value.int IntKind.u8 n) (qrm l)).length=0 by simp;omega]
 rw[List.set_append_right _ _ (by simp;omega)]
 rw[show l.length*3+1 - (List.map (fun n=>Value.int IntKind.u8 n) (qrm l)).length=1 by simp;omega]
 rw[List.set_append_right _ _ (by simp;omega)]
 rw[show l.length*3+2 - (List.map (fun n=>Value.int IntKind.u8 n) (qrm l)).length=2 by simp;omega]
 simp[qrm]
theorem make64 (W:World):(Instr.makeSlice 38 (.int .i64 64) (.int .i64 64)).run Tryz.prog W=.ok (.slice (some ⟨W.heap.size,0,none⟩) 64 64) (W.alloc (.cells (byts (qfh 0 [])) 5)):=by kernel_rfl
theorem ybdb (n:Int):(byts (qfh 0 [])).setIfInBounds 0 (.int .u8 n)=byts (qfh n []):=rfl
def qvl (l:List (Int × Int)) (w:World) (e:Ending) (w':World):Prop:=
 ∃ g,e=.returned (.tuple #[.slice (some ⟨g,0,none⟩) 64 64,.int .i64 0])/\w.heap.size<=g/\w'.heap[g]? = some (.cells (byts (qfh l.length l)) 5 (0,0))/\Below w.heap.size w w'
theorem qzu {l:List (Int × Int)} (h:qda l=0):l.length<=20/\okQ l=true:=by
 unfold qda at h
 split at h
 ·cases h
 ·split at h
  ·exact⟨by omega,by assumption⟩
  ·cases h
theorem yboh (v:Value) (l:List (Int × Int)) (w:World) (h:qai w v 2 l.length (qbw l)) (hl:l.length<=1000000) (c:Int) (hc:Hid (qda l=c)) (hc0:(c != 0)=true):
  Calls Tryz.prog 84 #[v] w fun e w'=>e=.returned (.tuple #[.slice none 0 0,.int .i64 c])/\Below w.heap.size w w':=by
 have HR:=Lib.hid (quz v l w h hl)
 rw[hc.out]at HR
 clear h
 go_enter Tryz.func84,Tryz.ntmps84
 go_wp2_with fail
 refine HR.out.mono ?_
 rintro e w' ⟨rfl,hb⟩
 go_wp2
 go_ret2
 exact⟨rfl,hb⟩
theorem qut (v:Value) (l:List (Int × Int)) (w:World) (h:qai w v 2 l.length (qbw l)) (hr:qda l=0):
  Calls Tryz.prog 84 #[v] w (qvl l w):=by
 obtain⟨hl20,hok⟩:=qzu hr
 have HR:=quz v l w h (by omega)
 rw[hr]at HR
 have HRH:=Lib.hid HR
 have HOK:=Lib.hid hok
 obtain⟨a,c,hv,HC⟩:=qva h
 obtain⟨n,HN⟩:∃ n,Hid (n=l.length):=⟨_,rfl⟩
 rw[<-HN.out]at hv hl20
 have HCH:=Lib.hid HC
 clear HC h hok hr HR
 subst hv
 unfold qvl
 rw[<-HN.out]
 obtain⟨Z0,HZ⟩:∃ Z,Hid (Z=byts (qfh 0 [])):=⟨_,rfl⟩
 have hmk:∀ W:World,(Instr.makeSlice 38 (.int .i64 64) (.int .i64 64)).run Tryz.prog W=.ok (.slice (some ⟨W.heap.size,0,none⟩) 64 64) (W.alloc (.cells Z0 5)):=fun W=>by rw[HZ.out];exact make64 W
 go_enter Tryz.func84,Tryz.ntmps84
 go_wp2_with fail
 refine HRH.out.mono ?_
 rintro e w1 ⟨rfl,hb1⟩
 have hs1:=hb1.size
 obtain⟨B,HB⟩:∃ B,Hid (B=w1.heap.size):=⟨_,rfl⟩
 have hZ0:Hid ((w1.alloc (.cells Z0 5)).heap[B]? = some (.cells Z0 5 (0,0))):=by show _=_;rw[HB.out];exact heap_alloc_new _ _
 have HB0:Below w.heap.size w (w1.alloc (.cells Z0 5)):=hb1.alloc hs1 _
 have x0:(w1.alloc (.cells Z0 5)).cell? ⟨B,0,none⟩=some (.int .u8 0):=by
  rw[cell_of_row _ _ _ _ _ _ hZ0.out,HZ.out];rfl
 have f0:(w1.alloc (.cells Z0 5)).frozen? ⟨B,0,none⟩=false:=frozen_of_row _ _ _ _ _ hZ0.out
 rw[HB.out]at x0 f0
 have hn1:(n:Int) % 256=(n:Int):=by omega
 go_wp2_with fail
 have H00:Hid ((w1.alloc (Obj.cells (Z0.setIfInBounds 0 (Value.int IntKind.u8 n)) 5)).heap[w1.heap.size]? = some (.cells (byts (qfh n (l.take 0))) 5 (0,0))):=by
  show _=_
  rw[heap_alloc_new,HZ.out,ybdb]
  rfl
 have HB1:Below w.heap.size w (w1.alloc (Obj.cells (Z0.setIfInBounds 0 (Value.int IntKind.u8 n)) 5)):=hb1.alloc hs1 _
 clear hmk hZ0 HB0 x0 f0 hn1
 go_loopw [21] (fun i wr=>∃ k:Nat,k<=n/\i=.int .i64 k/\Below w.heap.size w wr/\Hid (wr.heap[w1.heap.size]? = some (.cells (byts (qfh n (l.take k))) 5 (0,0)))) (fun i _=>n - (intOf i).toNat)
 case atStart=>exact⟨0,Nat.zero_le _,rfl,HB1,H00⟩
 case round=>
  obtain⟨k,hk,rfl,HBR,H0⟩:=hrel
  by_cases hlt:k<n
  ·have hkl:k<l.length:=by rw[<-HN.out];exact hlt
   obtain⟨g,o,rfl,hg,hc⟩:=HCH.out (by omega)
   obtain⟨x,Hx⟩:∃ x,Hid (x=l[k].1):=⟨l[k].1,rfl⟩
   obtain⟨y,Hy⟩:∃ y,Hid (y=l[k].2):=⟨l[k].2,rfl⟩
   have c0:wr.cell? ⟨g,o+k*2,none⟩=some (.int .i64 x):=by rw[HBR.cell (p:=⟨g,o+k*2,none⟩) hg,(hc k hkl).1,Hx.out]
   have c1:wr.cell? ⟨g,o+k*2+1,none⟩=some (.int .i64 y):=by rw[HBR.cell (p:=⟨g,o+k*2+1,none⟩) hg,(hc k hkl).2,Hy.out]
   have ho:=(qhn l k).1 (ybwk HOK.out k hkl)
   rw[ybcf l k hkl,<-Hx.out,<-Hy.out]at ho
   obtain⟨x0,x1,y0,y1,_⟩:=ho
   have hlen:(l.take k).length=k:=by rw[List.length_take,<-HN.out];omega
   have HXY:Hid (l.take (k+1)=l.take k++[(x,y)]):=by
    show _=_
    rw[<-List.take_append_getElem hkl,Hx.out,Hy.out]
   have hsz:(byts (qfh n (l.take k))).size=64:=by
    have:=qng n (l.take k) (by omega)
    simpa[byts]using this
   have hB:w1.heap.size<wr.heap.size:=qac H0.out
   have hcx:∀ j,j<64->∃ x,wr.cell? ⟨w1.heap.size,j,none⟩=some x:=fun j hj=>by
    rw[cell_of_row _ _ _ _ _ _ H0.out]
    exact⟨_,Array.getElem?_eq_getElem (by rw[hsz];exact hj)⟩
   obtain⟨z1,hz1⟩:=hcx (3*k+1) (by omega)
   obtain⟨z2,hz2⟩:=hcx (3*k+2) (by omega)
   obtain⟨z3,hz3⟩:=hcx (3*k+3) (by omega)
   have f1:wr.frozen? ⟨w1.heap.size,3*k+1,none⟩=false:=frozen_of_row _ _ _ _ _ H0.out
   have f2:wr.frozen? ⟨w1.heap.size,3*k+2,none⟩=false:=frozen_of_row _ _ _ _ _ H0.out
   have f3:wr.frozen? ⟨w1.heap.size,3*k+3,none⟩=false:=frozen_of_row _ _ _ _ _ H0.out
   have HSZ:=Lib.hid hsz
   have HLEN:=Lib.hid hlen
   clear hcx hc hsz hlen
   go_wp2
   go_region
   all_goals
    go_wp2
    go_roundw
    case rel=>
     refine⟨k+1,by omega,by go_num,?_,?_⟩
     ·exact ((((HBR.setCell hs1 _).setCell hs1 _).setCell hs1 _).alloc (((HBR.setCell hs1 _).setCell hs1 _).setCell hs1 _).size _).drew
     ·have h1:=qad (heap_setCell_same _ _ (3*k+3) _ _ (.int .u8 (y / 256)) (heap_setCell_same _ _ (3*k+2) _ _ (.int .u8 (y % 256)) (heap_setCell_same _ _ (3*k+1) _ _ (.int .u8 x) H0.out))) (Obj.cells #[Value.int IntKind.i64 x,Value.int IntKind.i64 y] 145)
      have h2:=yboi n (l.take k) (x,y) (by rw[HLEN.out];omega)
      rw[HLEN.out,show k*3=3*k by omega,<-HXY.out]at h2
      show _=_
      rw[<-h2]
      exact h1
    case measure=>simp[intOf];omega
  ·have hkn:k=n:=by omega
   have HF:Hid (l.take k=l):=by show _=_;rw[hkn,HN.out];exact List.take_length
   have H4:Hid (wr.heap[w1.heap.size]? = some (.cells (byts (qfh n l)) 5 (0,0))):=by
    have:=H0.out
    rw[HF.out]at this
    exact this
   clear H0 HF
   go_wp2
   go_ret2
   exact⟨_,rfl,hs1,H4.out,HBR⟩
end Go.Proofs.YtpoglnpjadmbpaaGreatDoor
