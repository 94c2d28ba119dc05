/- Part of the proofs of FsLinks: the texts FsG, FsH, Fs8. -/
import Derived.Test.YtpoglnpjadmbpaaGreatDoorKA38
set_option maxHeartbeats 16000000
set_option maxRecDepth 100000
namespace Go.Proofs.YtpoglnpjadmbpaaGreatDoor
open Go.RowKit
def qay (n:Nat):Fo:=⟨fun t i=>if t=0/\i<n then ((37+i:Nat):Int) else 0,fun t p=>decide (t=0) && decide (37<=p) && decide (p<37+n)⟩
def qgb (n:Nat):Fo:=⟨(qay (n+1)).nd,(qay n).hs⟩
theorem ybwb {f g:Fo} (h1:∀ t i,f.nd t i=g.nd t i) (h2:∀ t p,f.hs t p=g.hs t p):f=g:=by
 cases f;cases g
 congr 1
 ·funext t i;exact h1 t i
 ·funext t p;exact h2 t p
theorem ybik : qay 0=qiq:=by
 refine ybwb (fun t i=>?_) (fun t p=>?_)
 ·show (if t=0/\i<0 then _ else (0:Int))=_
  rw[if_neg (by omega)]
  rfl
 ·show (decide (t=0) && decide (37<=p) && decide (p<37+0))=_
  have:(decide (37<=p) && decide (p<37+0))=false:=by
   by_cases h:37<=p
   ·simp[h] <;> omega
   ·simp[h]
  rw[Bool.and_assoc,this,Bool.and_false]
  rfl
theorem ybtn (n t j:Nat) (h:¬ (t=0/\j=n)):(qay n).nd t j=(qgb n).nd t j:=by
 unfold qay qgb
 dsimp only[qay]
 by_cases h3:t=0/\j<n
 ·rw[if_pos h3,if_pos ⟨h3.1,by omega⟩]
 ·rw[if_neg h3,if_neg (by omega)]
theorem ybnm (n:Nat):(qgb n).hs=(qay n).hs:=rfl
theorem ybhe (n:Nat) (hn:n<16):(encF (qay n)).setIfInBounds n (.int .i64 ((37+n:Nat):Int))=encF (qgb n):=by
 apply Array.ext_getElem?
 intro i
 rw[Array.getElem?_setIfInBounds,qak]
 by_cases hi:n=i
 ·subst hi
  rw[if_pos rfl,if_pos (by omega)]
  have h1:=qbz (qgb n) 0 n (by omega) (by omega)
  rw[Nat.zero_mul,Nat.zero_add]at h1
  rw[h1]
  unfold qdb
  rw[if_pos hn]
  show _=some (Value.int .i64 (if 0=0/\n<n+1 then _ else _))
  rw[if_pos ⟨rfl,by omega⟩]
 ·rw[if_neg hi]
  by_cases hl:i<192
  ·have h1:=qbz (qay n) (i / 48) (i % 48) (by omega) (by omega)
   have h2:=qbz (qgb n) (i / 48) (i % 48) (by omega) (by omega)
   rw[show i / 48*48+i % 48=i by omega]at h1 h2
   rw[h1,h2]
   unfold qdb
   by_cases hj:i % 48<16
   ·rw[if_pos hj,if_pos hj]
    rw[ybtn n (i / 48) (i % 48) (by omega)]
   ·rw[if_neg hj,if_neg hj,ybnm]
  ·rw[Array.getElem?_eq_none (by rw[qak];omega),Array.getElem?_eq_none (by rw[qak];omega)]
def hasG (f:Fo) (s:Nat->Bool):Fo:=⟨f.nd,fun k=>if k=0 then s else f.hs k⟩
theorem ybbn (f:Fo) (s:Nat->Bool):((encF f).toList.take 16++(enc s).toList++(encF f).toList.drop (16+(enc s).size)).toArray=encF (hasG f s):=by
 apply Array.ext_getElem?
 intro i
 have hs:(enc s).toList.length=32:=by simpa using qau s
 have hl:(encF f).toList.length=192:=by simpa using qak f
 have hg:∀ j,(encF f).toList[j]? = (encF f)[j]? :=fun j=>Array.getElem?_toList
 rw[List.getElem?_toArray,qau]
 have hg2:∀ f:Fo,i<192->(encF f)[i]? = some (qdb f (i / 48) (i % 48)):=fun f hi=>by
  have:=qbz f (i / 48) (i % 48) (by omega) (by omega)
  rwa [show i / 48*48+i % 48=i by omega]at this
 by_cases h1:i<16
 ·rw[List.append_assoc,List.getElem?_append_left (by rw[List.length_take,hl];omega),List.getElem?_take,if_pos h1,hg,hg2 _ (by omega),hg2 _ (by omega)]
  unfold qdb
  rw[if_pos (by omega),if_pos (by omega)]
  rfl
 ·by_cases h2:i<48
  ·rw[List.append_assoc,List.getElem?_append_right (by rw[List.length_take,hl];omega),List.getElem?_append_left (by rw[List.length_take,hl,hs];omega),List.length_take,hl,Array.getElem?_toList,qdh _ _ (by omega),hg2 _ (by omega)]
   unfold qdb
   rw[if_neg (by omega),show i / 48=0 by omega,show min 16 192=16 by omega,show i % 48 - 16=i - 16 by omega]
   rfl
  ·rw[List.append_assoc,List.getElem?_append_right (by rw[List.length_take,hl];omega),List.getElem?_append_right (by rw[List.length_take,hl,hs];omega),List.getElem?_drop,List.length_take,hl,hs,hg]
   rw[show 16+32+(i - min 16 192 - 32)=i by omega]
   by_cases h3:i<192
   ·rw[hg2 _ h3,hg2 _ h3]
    unfold qdb
    by_cases hj:i % 48<16
    ·rw[if_pos hj,if_pos hj]
     rfl
    ·rw[if_neg hj,if_neg hj]
     show _=some (Value.int .u8 (qbq (if i / 48=0 then s else f.hs (i / 48)) (i % 48 - 16)))
     rw[if_neg (by omega)]
   ·rw[Array.getElem?_eq_none (by rw[qak];omega),Array.getElem?_eq_none (by rw[qak];omega)]
theorem ybij (n:Nat):hasG (qgb n) (ins ((qgb n).hs 0) (37+n))=qay (n+1):=by
 refine ybwb (fun t i=>rfl) (fun t p=>?_)
 show (if t=0 then ins ((qay n).hs 0) (37+n) else (qay n).hs t) p=(qay (n+1)).hs t p
 by_cases ht:t=0
 ·subst ht
  rw[if_pos rfl]
  unfold ins qay
  dsimp only
  by_cases hp:p=37+n
  ·subst hp;simp
  ·have:decide (p<37+n)=decide (p<37+(n+1)):=by
    by_cases h:p<37+n
    ·rw[decide_eq_true h,decide_eq_true (by omega)]
    ·rw[decide_eq_false h,decide_eq_false (by omega)]
   simp[hp,this]
 ·rw[if_neg ht]
  unfold qay
  simp[ht]
def qdg : List Int:=List.replicate 64 0
def zE (st:Dk):Nat->Dk
 | 0=>st
 | j+1=>qcb (zE st j) j qdg
def fE (st:Dk) (b:List Int):Nat->Dk
 | 0=>st
 | j+1=>qcb (fE st b j) (1+j) (sec b j)
def qil : List Int:=qgz 2 493 0 0 0 1 1 []++List.replicate 32 0
def fmtE (st:Dk) (k:Nat):Dk:=qfu (qcb (qcb (fE (zE st k) (qbs (qay 16)) 3) 37 qil) 0 (qfv k))
theorem zE_W (st:Dk):∀ j,(zE st j).W.length<=st.W.length+j
 | 0=>Nat.le_refl _
 | j+1=>by
  have h1:=qqq (zE st j) j qdg
  have h2:=zE_W st j
  show (qcb (zE st j) j qdg).W.length<=_
  omega
theorem fE_W (st:Dk) (b:List Int):∀ j,(fE st b j).W.length<=st.W.length+j
 | 0=>Nat.le_refl _
 | j+1=>by
  have h1:=qqq (fE st b j) (1+j) (sec b j)
  have h2:=fE_W st b j
  show (qcb (fE st b j) (1+j) (sec b j)).W.length<=_
  omega
theorem ybct : qbn (qay 16)=0:=by kernel_rfl
theorem ybji : qan 2 493 0 0 0 1 1 []=0:=by kernel_rfl
theorem qnj : (qgz 2 493 0 0 0 1 1 []).length=32:=by kernel_rfl
theorem qhb : qil.length=64:=by unfold qil;rw[List.length_append,qnj,List.length_replicate]
theorem ybwo (n:Nat):(Builtin.zeroCells #[.int .u8 0] n).toList=List.replicate n (Value.int .u8 0):=by
 apply List.ext_getElem
 ·simp[Builtin.zeroCells]
 ·intro i h1 h2
  simp[Builtin.zeroCells,Nat.mod_one]
theorem qrx {w:World} {F:Nat->Prop} {g n:Nat} {cur:Array Value} {t:TypeId} {D:List Int} (hg:w.heap[g]? = some (.cells cur t (0,0))) (hn:¬ F g) (hc:cur.toList.take n=u8s D) (hD:D.length=n) (o m c:Nat) (hm:o+m<=n):∀ w',qab F w w'->qaf w' (.slice (some ⟨g,o,none⟩) m c) ((D.drop o).take m):=fun _w' hk=>
 ybwl (_base:=0) (_c:=0) hD ((hk.block g (qac hg) hn).trans hg) hc o m c hm
theorem yblu {w:World} {a:Addr} {st:Dk} {k:Nat} {F:Nat->Prop} (h:qaw w (.pointer (some a)) st k F) (hk:64<=k) (hk2:k<=256) (hW:st.W.length<=1000):
  Calls Tryz.prog 29 #[.pointer (some a)] w (fun e w'=>e=.returned (.int .i64 0)/\Did (.pointer (some a)) (fmtE st k) k F w w'):=by
 have H:=Lib.hid h
 have HF:=Lib.hid h.fin
 have HSZ:=Lib.hid (qfz h)
 have d1:decide ((k:Int)<64)=false:=decide_eq_false (by omega)
 have d2:¬ ((k:Int)<64):=by omega
 have d3:¬ (k<64):=by omega
 obtain⟨Z,HZ⟩:∃ Z,Hid (Z=List.replicate 64 (0:Int)):=⟨_,rfl⟩
 have HZL:Hid (Z.length=64):=by show _=_;rw[HZ.out];simp
 have hmk:∀ W:World,(Instr.makeSlice 38 (.int .i64 64) (.int .i64 64)).run Tryz.prog W=.ok (.slice (some ⟨W.heap.size,0,none⟩) 64 64) (W.alloc (.cells (u8s Z).toArray 5)):=fun W=>by
  rw[HZ.out];exact qht 64 64 rfl (by omega) W
 have HB1:Hid (Below w.heap.size w (w.alloc (.cells (u8s Z).toArray 5))):=(Below.refl _ _).alloc (Nat.le_refl _) _
 have HR1:Hid ((w.alloc (.cells (u8s Z).toArray 5)).heap[w.heap.size]? = some (.cells (u8s Z).toArray 5 (0,0))):=heap_alloc_new _ _
 have HD1:=Lib.hid (h.below HB1.out)
 have HSZ1:=Lib.hid (qfz HD1.out)
 clear h
 go_enter Tryz.func29,Tryz.ntmps29
 go_wp2_with fail
 refine HSZ.out.mono ?_
 rintro e w' ⟨rfl,rfl⟩
 go_wp2_with fail
 refine HSZ1.out.mono ?_
 rintro e w1 ⟨rfl,rfl⟩
 obtain⟨gz,Hgz⟩:∃ x,Hid (w.heap.size=x):=⟨_,rfl⟩
 rw[Hgz.out]at HR1 ⊢
 have HSW:Hid (gz<(w.alloc (.cells (u8s Z).toArray 5)).heap.size):=qac HR1.out
 generalize w.alloc (.cells (u8s Z).toArray 5)=w1 at *
 go_wp2
 go_loopw [18] (fun iv wr=>∃ j:Nat,j<=k/\iv=.int .i64 j/\Hid (Did (.pointer (some a)) (zE st j) k F w1 wr)) (fun iv _=>k - (intOf iv).toNat)
 case atStart=>exact⟨0,by omega,rfl,⟨F,HD1.out,fun _ hi=>Or.inl hi,qab.refl _ _⟩⟩
 case round=>
  obtain⟨j,hj,rfl,HDD⟩:=hrel
  obtain⟨F1,y1,y2,y3⟩:=HDD.out
  have hgF:¬ F1 gz:=fun hc=>by
   rcases y2 gz hc with h | h
   ·have:=HF.out gz h;have:=Hgz.out;omega
   ·have:=HSW.out;omega
  have hgF0:¬ F gz:=fun hc=>by have:=HF.out gz hc;have:=Hgz.out;omega
  have hrz:=(y3.block gz HSW.out hgF0).trans HR1.out
  by_cases hjk:j<k
  ·have hjk2:(j:Int)<(k:Int):=by omega
   have hkb:=qrx (n:=64) hrz hgF (by rw[List.toList_toArray,List.take_of_length_le (by rw[qal,HZL.out];exact Nat.le_refl _)]) HZL.out 0 64 64 (by omega)
   rw[List.drop_zero,List.take_of_length_le (by rw[HZL.out];exact Nat.le_refl _),HZ.out]at hkb
   have HWR:=Lib.hid (qhq y1 j hjk (.slice (some ⟨gz,0,none⟩) 64 64) qdg (by simp[qdg]) hkb (by have:=zE_W st j;omega))
   have HY:Hid (qab F w1 wr/\∀ i,F1 i->F i\/w1.heap.size<=i):=⟨y3,y2⟩
   clear y1 y2 y3 hgF hgF0 hrz hkb
   go_wp2_with fail
   refine HWR.out.mono ?_
   rintro e w2 ⟨rfl,hd2⟩
   have HD2:Hid (Did (.pointer (some a)) (zE st (j+1)) k F w1 w2):=Did.trans HY.out.1 HY.out.2 hd2
   clear hd2
   go_wp2
   go_roundw
   case rel=>exact⟨j+1,by omega,by go_num,HD2⟩
   case measure=>simp[intOf];omega
  ·obtain rfl:j=k:=by omega
   have hjk2:¬ (j:Int)<(j:Int):=by omega
   obtain⟨wa,HWA⟩:∃ x,x=wr:=⟨wr,rfl⟩
   subst HWA
   have HY:Hid (qaw wa (.pointer (some a)) (zE st j) j F1/\(∀ i,F1 i->F i\/w1.heap.size<=i)/\qab F w1 wa):=⟨y1,y2,y3⟩
   obtain⟨Z0,HZ0⟩:∃ Z,Hid (Z=encF qiq):=⟨_,rfl⟩
   have HZV:Hid (∀ w,(zeroValue 80).run Tryz.prog w=.ok (.agg Z0) w):=by rw[HZ0.out];exact forZ
   have HB2:Hid (Below wa.heap.size wa (wa.alloc (.cells Z0 80))):=(Below.refl _ _).alloc (Nat.le_refl _) _
   have HR2:Hid ((wa.alloc (.cells Z0 80)).heap[wa.heap.size]? = some (.cells (encF (qay 0)) 80 (0,0))):=by
    show _=_
    rw[ybik,<-HZ0.out]
    exact heap_alloc_new _ _
   clear y1 y2 y3 hgF hgF0 hrz
   go_wp2_with (refine qbh rfl 80 rfl Z0 HZV.out ?_)
   obtain⟨gF,HgF⟩:∃ x,Hid (wa.heap.size=x):=⟨_,rfl⟩
   rw[HgF.out]at HR2 ⊢
   generalize wa.alloc (.cells Z0 80)=w2 at *
   have HYF:Hid ((∀ i,F1 i->i<gF)/\gF<w2.heap.size):=⟨fun i hi=>by rw[<-HgF.out];exact HY.out.1.fin i hi,qac HR2.out⟩
   go_wp2
   go_loopw [26] (fun iv wq=>∃ n:Nat,n<=16/\iv=.int .i64 n/\Hid (wq.heap[gF]? = some (.cells (encF (qay n)) 80 (0,0)))/\Hid (Below gF wa wq)) (fun iv _=>16 - (intOf iv).toNat)
   case atStart=>exact⟨0,by omega,rfl,HR2.out,by show Below _ _ _;rw[<-HgF.out];exact HB2.out⟩
   case round=>
    obtain⟨n,hn,rfl,HRN,HBN⟩:=hrel
    have hgFw:gF<=wr.heap.size:=by have:=qac HRN.out;omega
    by_cases hn16:n<16
    ·have hn16':(n:Int)<16:=by omega
     obtain⟨R,HR⟩:∃ R,Hid (encF (qay n)=R):=⟨_,rfl⟩
     have HRS:Hid (R.size=192):=by show _=_;rw[<-HR.out];exact qak _
     have hrn:=HRN.out
     rw[HR.out]at hrn
     have cn:wr.cell? ⟨gF,n,none⟩=some (R[n]'(by rw[HRS.out];omega)):=(cell_of_row _ _ _ _ _ _ hrn).trans (Array.getElem?_eq_getElem _)
     have zn:wr.frozen? ⟨gF,n,none⟩=false:=frozen_of_row _ _ _ _ _ hrn
     obtain⟨cv,Hcv⟩:∃ c,(R[n]'(by rw[HRS.out];omega))=c:=⟨_,rfl⟩
     rw[Hcv]at cn
     clear Hcv
     obtain⟨R1,HR1'⟩:∃ R,Hid (encF (qgb n)=R):=⟨_,rfl⟩
     have HS1:Hid (R.setIfInBounds n (.int .i64 (37+(n:Int)))=R1):=by
      show _=_
      rw[<-HR.out,<-HR1'.out,<-ybhe n hn16]
      congr 2
     have HRW1:Hid ((wr.setCell ⟨gF,n,none⟩ (.int .i64 (37+(n:Int)))).heap[gF]? = some (.cells R1 80 (0,0))):=by
      show _=_
      rw[<-HS1.out]
      exact heap_setCell_same _ _ n _ _ _ hrn
     have HRS1:Hid (R1.size=192):=by show _=_;rw[<-HR1'.out];exact qak _
     obtain⟨S0,HS0⟩:∃ S,Hid (S=enc ((qgb n).hs 0)):=⟨_,rfl⟩
     have HS0S:Hid (S0.size=32):=by rw[HS0.out];exact qau _
     have HSP:Hid (∀ j,j<S0.size->R1[16+j]? = S0[j]?):=by
      rw[<-HR1'.out,HS0.out]
      have h2:∀ j,j<(enc ((qgb n).hs 0)).size->(encF (qgb n))[16+j]? = (enc ((qgb n).hs 0))[j]? :=by
       have:=qnh (qgb n) 0 (by omega)
       simpa using this
      exact h2
     obtain⟨S1,HS1'⟩:∃ S,Hid (S=enc (ins ((qgb n).hs 0) (37+n))):=⟨_,rfl⟩
     have HS1S:Hid (S1.size=32):=by rw[HS1'.out];exact qau _
     have HS11:Hid (S1.all (·.oneCell')=true):=by rw[HS1'.out];exact qit _
     have HWI:Hid (∀ W:World,Calls Tryz.prog 75 #[.agg S0,.int .i64 (37+(n:Int))] W fun e w'=>e=.returned (.agg S1)/\Below W.heap.size W w'):=fun W=>by
      have:=ybdx ((qgb n).hs 0) (37+(n:Int)) W (by omega) (by omega)
      rw[show (37+(n:Int)).toNat=37+n by omega]at this
      rw[HS0.out,HS1'.out]
      exact this
     obtain⟨R2,HR2'⟩:∃ R,Hid (encF (qay (n+1))=R):=⟨_,rfl⟩
     have HPB:Hid ((R1.toList.take 16++S1.toList++R1.toList.drop (16+S1.size)).toArray=R2):=by
      show _=_
      rw[<-HR1'.out,HS1'.out,<-HR2'.out,<-ybij]
      exact ybbn _ _
     have HB3:Hid (Below gF wa (wr.setCell ⟨gF,n,none⟩ (.int .i64 (37+(n:Int))))):=HBN.out.setCell (p:=⟨gF,n,none⟩) (Nat.le_refl _) _
     clear hrn
     go_upto_region 14 with fail
     generalize wr.setCell ⟨gF,n,none⟩ (.int .i64 (37+(n:Int)))=w3 at *
     go_wp2_with (refine qar (by kernel_rfl) 76 (.tmp 36) rfl gF 16 rfl 80 R1 S0 (0,0) _ HRW1.out HSP.out setT rfl (by rw[HS0S.out];exact setI) ?_)
     refine (HWI.out w3).mono ?_
     rintro e w4 ⟨rfl,hb4⟩
     have HRW4:=Lib.hid (qaa hb4 HRW1.out)
     have hgF3:gF<=w3.heap.size:=by have:=qac HRW1.out;omega
     have HB4:Hid (Below gF wa w4):=HB3.out.trans (hb4.mono hgF3)
     clear hb4
     have hcap:∀ (Q:Exit->Act->World->Prop),True:=fun _=>trivial
     go_wp2_with (refine qfl rfl 76 (.tmp 42) (.tmp 40) rfl gF 16 S1 rfl rfl 80 R1 R2 HRW4.out (by rw[HS1S.out];exact setI) (by rw[HS1S.out,HRS1.out];omega) HS11.out HPB.out ?_)
     have HRN5:Hid ((w4.setRow gF R2).heap[gF]? = some (.cells (encF (qay (n+1))) 80 (0,0))):=by
      show _=_
      rw[HR2'.out]
      exact setRow_heap _ _ _ _ _ _ HRW4.out
     have HB5:Hid (Below gF wa (w4.setRow gF R2)):=Below.setRow HB4.out (Nat.le_refl _) _
     go_wp2
     go_roundw
     case rel=>exact⟨n+1,by omega,by go_num,HRN5,HB5⟩
     case measure=>simp[intOf];omega
    ·obtain rfl:n=16:=by omega
     obtain⟨R,HR⟩:∃ R,Hid (encF (qay 16)=R):=⟨_,rfl⟩
     have HRS:Hid (R.size=192):=by show _=_;rw[<-HR.out];exact qak _
     have HRR:Hid (wr.heap[gF]? = some (.cells R 80 (0,0))):=by rw[<-HR.out];exact HRN.out
     have HPK:Hid (Calls Tryz.prog 76 #[.agg R] wr (qlw (qay 16) wr)):=by rw[<-HR.out];exact qos _ ybct wr
     have HBa:Hid (Below wa.heap.size wa wr):=by show Below _ _ _;rw[HgF.out];exact HBN.out
     go_wp2_with (refine wpList_load_row rfl 80 (.tmp 5) rfl gF rfl 80 R (0,0) _ HRR.out forT rfl (by rw[HRS.out];exact forI) ?_)
     refine HPK.out.mono ?_
     rintro e w5 ⟨v5,rfl,ho5,hb5⟩
     obtain⟨_,⟨_,h0⟩ | ⟨gP,cP,curP,rfl,hgP,hhP,hcP,_,_,htP⟩⟩:=id ho5
     ·omega
     have HB5:Hid (Below wa.heap.size wa w5):=Below.step HBa.out hb5
     have HGP:Hid (w5.heap[gP]? = some (.cells curP 5 (0,0))/\curP.toList.take 192=u8s (qbs (qay 16))/\192<=cP/\wa.heap.size<=gP):=⟨hhP,by simpa using htP,hcP,Nat.le_trans HBa.out.size (by omega)⟩
     clear ho5 hb5 hgP hhP hcP htP
     have HPN:=Lib.hid (qkp 2 493 0 0 0 1 1 (.slice none 0 0) [] w5 ⟨rfl,Or.inl ⟨rfl,_,_,rfl⟩⟩ ybji)
     go_wp2_with fail
     refine HPN.out.mono ?_
     rintro e w6 ⟨gR,rfl,hgR,hhR,hb6⟩
     have HB6:Hid (Below wa.heap.size wa w6):=Below.step HB5.out hb6
     have HGR:Hid (w6.heap[gR]? = some (.cells (byts (qgz 2 493 0 0 0 1 1 [])) 5 (0,0))/\wa.heap.size<=gR):=⟨hhR,Nat.le_trans HB5.out.size hgR⟩
     have HGP6:=Lib.hid (qaa hb6 HGP.out.1)
     have HD6:=Lib.hid (HY.out.1.below HB6.out)
     clear hgR hhR hb6
     go_wp2
     go_loopw [60] (fun iv wq=>∃ n:Nat,n<=3/\iv=.int .i64 n/\Hid (Did (.pointer (some a)) (fE (zE st j) (qbs (qay 16)) n) j F1 w6 wq)) (fun iv _=>3 - (intOf iv).toNat)
     case atStart=>exact⟨0,by omega,rfl,⟨F1,HD6.out,fun _ hi=>Or.inl hi,qab.refl _ _⟩⟩
     case round=>
      obtain⟨n,hn,rfl,HDN⟩:=hrel
      obtain⟨F2,y1,y2,y3⟩:=HDN.out
      have HY2:Hid ((∀ i,F2 i->F1 i\/w6.heap.size<=i)/\qab F1 w6 wr):=⟨y2,y3⟩
      have hF1:∀ g,wa.heap.size<=g->¬ F1 g:=fun g hg hc=>by have:=HYF.out.1 g hc;have:=HgF.out;omega
      have hF2:∀ g,wa.heap.size<=g->g<w6.heap.size->¬ F2 g:=fun g hg hg2 hc=>(y2 g hc).elim (hF1 g hg) (fun h=>by omega)
      have hrP:=(y3.block gP (qac HGP6.out) (hF1 gP HGP.out.2.2.2)).trans HGP6.out
      by_cases hn3:n<3
      ·have hn3':(n:Int)<3:=by omega
       have hkb:=qrx (n:=192) hrP (hF2 gP HGP.out.2.2.2 (qac HGP6.out)) HGP.out.2.1 (qgy _) (64*n) 64 (cP - 64*n) (by omega)
       have hW2:=fE_W (zE st j) (qbs (qay 16)) n
       have hW3:=zE_W st j
       have HWR:=Lib.hid (qhq y1 (1+n) (by omega) (.slice (some ⟨gP,64*n,none⟩) 64 (cP - 64*n)) (sec (qbs (qay 16)) n) (by rw[qhu (k:=3) (qgy _) hn3]) hkb (by omega))
       have i1:IntKind.i64.wrap (64*(n:Int))=64*(n:Int):=IntWalk.i64_in _ (by omega)
       have i2:IntKind.i64.wrap ((n:Int)+1)=(n:Int)+1:=IntWalk.i64_in _ (by omega)
       have i3:IntKind.i64.wrap (64*((n:Int)+1))=64*((n:Int)+1):=IntWalk.i64_in _ (by omega)
       have i4:IntKind.i64.wrap (1+(n:Int))=1+(n:Int):=IntWalk.i64_in _ (by omega)
       have i5:((1+n:Nat):Int)=1+(n:Int):=by omega
       have hc192:192<=cP:=HGP.out.2.2.1
       rw[i5]at HWR
       clear y1 y2 y3 hF1 hF2 hrP hkb
       go_wp2_with fail
       rw[show 64*(n+1) - 64*n=64 by omega]
       refine HWR.out.mono ?_
       rintro e w7 ⟨rfl,hd7⟩
       have HD7:Hid (Did (.pointer (some a)) (fE (zE st j) (qbs (qay 16)) (n+1)) j F1 w6 w7):=Did.trans HY2.out.2 HY2.out.1 hd7
       clear hd7 HWR
       go_wp2
       go_roundw
       case rel=>exact⟨n+1,by omega,by go_num,HD7⟩
       case measure=>simp[intOf];omega
      ·obtain rfl:n=3:=by omega
       obtain⟨wb,HWB⟩:∃ x,x=wr:=⟨wr,rfl⟩
       subst HWB
       have hrR:=(y3.block gR (qac HGR.out.1) (hF1 gR HGR.out.2)).trans HGR.out.1
       have HD8:=Lib.hid y1
       have HRR8:=Lib.hid hrR
       have hF2R:=hF2 gR HGR.out.2 (qac HGR.out.1)
       obtain⟨i0,u1,u2,u3,u4⟩:=info_parts qtd
       have hi64:Tryz.prog.underlying 3=some (.int .i64):=by kernel_rfl
       have hap:=fun ty=>Lib.run_append_grow_zeros (P:=Tryz.prog) wb 38 3 ty 5 i0 _ .i64 .i64 u8sT hi64 u1 u2 (some ⟨gR,0,none⟩) 32 32 (u8s (qgz 2 493 0 0 0 1 1 [])) (by
        rw[u3]
        exact run_firstCells_some wb.drew 1 32 ⟨gR,0,none⟩ 32 32 _ (by rw[qal,qnj]) (fun q v hv=>by
         have hadd:(⟨gR,0,none⟩:Addr).add q=⟨gR,q,none⟩:=by unfold Addr.add;split <;> simp_all
         rw[hadd]
         show wb.drew.cell? _=_
         rw[show wb.drew.cell? ⟨gR,q,none⟩=wb.cell? ⟨gR,q,none⟩ from rfl,cell_of_row _ _ _ _ _ _ hrR,<-hv]
         simp[byts,u8s])) 32 (by omega) (by rw[u3];omega) (by omega) (by omega) (by rw[u4];omega) (by rw[u4];exact growslice_fits_wide (by omega) (by omega))
       obtain⟨cp,Hcp⟩:∃ c,Hid (grownCap wb (32+32) 32 5=c):=⟨_,rfl⟩
       have hcp64:64<=cp:=by rw[<-Hcp.out];exact grownCap_ge _ _ _ _
       obtain⟨C,HC⟩:∃ C,Hid ((u8s (qgz 2 493 0 0 0 1 1 [])).toArray++Builtin.zeroCells (Value.int .u8 0).cells 32++Builtin.zeroCells (Value.int .u8 0).cells (grownCap wb (32+32) 32 5 - (32+32))=C):=⟨_,rfl⟩
       have HCT:Hid (C.toList.take 64=u8s qil):=by
        show _=_
        rw[<-HC.out]
        simp only[Array.toList_append]
        rw[show (Value.int .u8 0).cells=#[Value.int .u8 0] from rfl,ybwo,ybwo]
        have e1:(u8s (qgz 2 493 0 0 0 1 1 [])++List.replicate 32 (Value.int .u8 0)).length=64:=by rw[List.length_append,qal,qnj,List.length_replicate]
        rw[List.take_append_of_le_length (by rw[e1];omega),List.take_of_length_le (by rw[e1];omega)]
        unfold qil
        rw[qbj]
        congr 1
       have hap2:∀ ty,(Builtin.append_ #[38,3] ty #[.slice (some ⟨gR,0,none⟩) 32 32,.int .i64 32]).run Tryz.prog wb=.ok (.slice (some ⟨wb.heap.size,0,none⟩) 64 cp) (wb.drew.alloc (.cells C 5)):=fun ty=>by
        have:=hap ty
        rw[HC.out,Hcp.out]at this
        exact this
       have HAP:=Lib.hid hap2
       clear hap2
       have HB9:Hid (Below wb.heap.size wb (wb.drew.alloc (.cells C 5))):=((Below.refl _ _).drew).alloc (Nat.le_refl _) _
       have HR9:Hid ((wb.drew.alloc (.cells C 5)).heap[wb.heap.size]? = some (.cells C 5 (0,0))):=heap_alloc_new wb.drew _
       have hW2:=fE_W (zE st j) (qbs (qay 16)) 3
       have hW3:=zE_W st j
       have HWL:Hid (st.W.length<=1000/\j<=256/\(zE st j).W.length<=st.W.length+j/\(fE (zE st j) (qbs (qay 16)) 3).W.length<=(zE st j).W.length+3):=⟨hW,hk2,hW3,hW2⟩
       have hkb9:=qrx (F:=F2) (n:=64) HR9.out (fun hc=>by have:=y1.fin _ hc;omega) HCT.out qhb 0 64 cp (by omega)
       rw[List.drop_zero,List.take_of_length_le (by rw[qhb];exact Nat.le_refl _)]at hkb9
       have HWR9:=Lib.hid (qhq (y1.below HB9.out) 37 (by omega) (.slice (some ⟨wb.heap.size,0,none⟩) 64 cp) qil qhb hkb9 (by omega))
       have HK9:Hid (qab F1 w6 (wb.drew.alloc (.cells C 5))):=HY2.out.2.step (qab.of_below HB9.out)
       clear u1 u2 u3 u4 hap hi64 hkb9 hrR hrP y1 y2 y3 hF1 hF2 hF2R hW2 hW3 hcp64
       go_wp2_with (at_builtin;refine Lib.wpList_append_run _ rfl _ _ _ _ rfl _ _ rfl rfl _ _ (HAP.out _) ?_)
       refine HWR9.out.mono ?_
       rintro e w10 ⟨rfl,F3,y1,y2,y3⟩
       have HY3:Hid ((∀ i,F3 i->F2 i\/wb.heap.size<=i)/\qab F2 wb w10):=⟨fun i hi=>(y2 i hi).imp id fun h=>Nat.le_trans HB9.out.size h,(qab.of_below HB9.out).trans y3 fun i hi=>Or.inl hi⟩
       have HD10:=Lib.hid y1
       have HSZ10:=Lib.hid (qfz y1)
       have HMK10:=Lib.hid (qwk j (by omega) w10)
       clear y1 y2 y3 HWR9
       go_wp2_with fail
       refine HSZ10.out.mono ?_
       rintro e w11 ⟨rfl,rfl⟩
       go_wp2_with fail
       refine HMK10.out.mono ?_
       rintro e w12 ⟨v12,rfl,hv12⟩
       have HB12:=Lib.hid hv12.below
       have hkb12:=hv12.keep HD10.out.fin
       have HWR12:=Lib.hid (qhq (HD10.out.below hv12.below) 0 (by omega) v12 (qfv j) (qgx j) hkb12 (by
        have h1:=HWL.out
        have h2:=qqq (fE (zE st j) (qbs (qay 16)) 3) 37 qil
        omega))
       clear hv12 hkb12
       go_wp2_with fail
       refine HWR12.out.mono ?_
       rintro e w13 ⟨rfl,F4,y1,y2,y3⟩
       have HY4:Hid ((∀ i,F4 i->F3 i\/w10.heap.size<=i)/\qab F3 w10 w13):=⟨fun i hi=>(y2 i hi).imp id fun h=>Nat.le_trans HB12.out.size h,(qab.of_below HB12.out).trans y3 fun i hi=>Or.inl hi⟩
       have HFL:=Lib.hid (qwa y1)
       clear y1 y2 y3 HWR12
       go_wp2_with fail
       refine HFL.out.mono ?_
       rintro e w14 ⟨rfl,hd14⟩
       have hd:Did (.pointer (some a)) (fmtE st j) j F3 w10 w14:=Did.trans HY4.out.2 HY4.out.1 hd14
       have hd2:Did (.pointer (some a)) (fmtE st j) j F2 wb w14:=Did.trans HY3.out.2 HY3.out.1 hd
       have hd3:Did (.pointer (some a)) (fmtE st j) j F1 w6 w14:=Did.trans HY2.out.2 HY2.out.1 hd2
       have hd4:Did (.pointer (some a)) (fmtE st j) j F1 wa w14:=Did.trans (qab.of_below HB6.out) (fun i hi=>Or.inl hi) hd3
       have hd5:Did (.pointer (some a)) (fmtE st j) j F w1 w14:=Did.trans HY.out.2.2 HY.out.2.1 hd4
       have HD14:Hid (Did (.pointer (some a)) (fmtE st j) j F w w14):=Did.trans (qab.of_below HB1.out) (fun i hi=>Or.inl hi) hd5
       clear hd14 hd hd2 hd3 hd4 hd5
       go_wp2
       go_ret
       exact⟨rfl,HD14.out⟩
theorem ybjc {w:World} {d:Value} {st:Dk} {k:Nat} {F:Nat->Prop} (h:qaw w d st k F) (hk:64<=k) (hk2:k<=256):Calls Tryz.prog 153 #[d,.int .i64 5,.int .i64 32] w fun e w'=>e=.returned (.int .i64 0)/\w=w':=by
 have HS:=Lib.hid (qfz h)
 obtain⟨a,rfl⟩:=h.ptr
 have i1:IntKind.i64.wrap ((k:Int) - 32)=(k:Int) - 32:=IntWalk.i64_in _ (by omega)
 have d1:decide ((k:Int) - 32<5)=false:=decide_eq_false (by omega)
 have d2:¬ ((k:Int) - 32<5):=by omega
 clear h
 go_enter Tryz.func153,Tryz.ntmps153
 go_wp2_with fail
 refine HS.out.mono ?_
 rintro e w' ⟨rfl,rfl⟩
 go_wp2
 go_ret
 exact⟨rfl,rfl⟩
theorem yboz {w:World} {a:Addr} {st:Dk} {k:Nat} {F:Nat->Prop} (h:qaw w (.pointer (some a)) st k F) (hk:64<=k) (hk2:k<=256) (hz:sec st.N 5=List.replicate 64 0):
  Calls Tryz.prog 110 #[.pointer (some a),.int .i64 5,.int .i64 32] w fun e w'=>e=.returned (.tuple #[.slice none 0 0,.int .u32 0,.bool false,.int .i64 0])/\Below w.heap.size w w':=by
 have HRG:=Lib.hid (ybjc h hk hk2)
 have hrd:=qka h 5 (by omega)
 rw[hz]at hrd
 have HRD:=Lib.hid hrd
 clear h hrd
 go_enter Tryz.func110,Tryz.ntmps110
 go_wp2_with fail
 refine HRG.out.mono ?_
 rintro e w' ⟨rfl,rfl⟩
 go_wp2_with fail
 refine HRD.out.mono ?_
 rintro e w1 ⟨v,rfl,g,cap,cur,rfl,⟨hg,hcap⟩,hh,ht,hb⟩
 have hc:∀ j,j<64->w1.cell? ⟨g,j,none⟩=some (.int .u8 0):=fun j hj=>by
  rw[cell_of_row _ _ _ _ _ _ hh,<-Array.getElem?_toList]
  have h1:(cur.toList.take 64)[j]? = (u8s (List.replicate 64 0))[j]? :=by
   have:=ht
   rw[List.length_replicate]at this
   rw[this]
  rw[List.getElem?_take,if_pos hj]at h1
  rw[h1]
  unfold u8s
  rw[List.map_replicate,List.getElem?_replicate,if_pos hj]
 have c0:=hc 0 (by omega)
 have c5:=hc 5 (by omega)
 have HB:=Lib.hid hb
 clear hc hh ht hg hcap hb
 rw[show (List.replicate 64 (0:Int)).length=64 from rfl]
 go_wp2
 refine bodyPost_ret (v:=.tuple #[.slice none 0 0,.int .u32 0,.bool false,.int .i64 0]) (by simp[results,Tryz.results110,go_sem]) rfl ⟨rfl,HB.out⟩
def LogK (a:Addr) (st:Dk) (k:Nat) (sq:Int) (F:Nat->Prop) (gl:Nat) (w w':World):Prop:=
 ∃ F',qaw w' (.pointer (some a)) st k F'/\(∀ i,F' i->F i\/w.heap.size<=i)/\¬ F' gl/\qab F w w'/\w'.heap[gl]? = some (.cells (logR a sq) 165 (0,0))/\w.heap.size<=gl
theorem ybnu {w:World} {a:Addr} {st:Dk} {k:Nat} {F:Nat->Prop} (h:qaw w (.pointer (some a)) st k F) (hk:64<=k) (hk2:k<=256) (hz:sec st.N 5=List.replicate 64 0):
  Calls Tryz.prog 70 #[.pointer (some a),.int .i64 5,.int .i64 32] w fun e w'=>∃ gl,e=.returned (.tuple #[.pointer (some ⟨gl,0,none⟩),.int .i64 0])/\LogK a st k 0 F gl w w':=by
 have HSC:=Lib.hid (yboz h hk hk2 hz)
 have H:=Lib.hid h
 clear h
 go_enter Tryz.func70,Tryz.ntmps70
 go_wp2_with fail
 refine HSC.out.mono ?_
 rintro e w1 ⟨rfl,hb⟩
 have HB:=Lib.hid hb
 have HLK:Hid (LogK a st k 0 F w1.heap.size w (w1.alloc (.cells (logR a 0) 165))):=by
  have hal:Below w1.heap.size w1 (w1.alloc (.cells (logR a 0) 165)):=(Below.refl _ _).alloc (Nat.le_refl _) _
  refine⟨F,(H.out.below hb).below hal,fun _ h=>Or.inl h,fun h=>?_,(qab.of_below hb).step (qab.of_below hal),heap_alloc_new _ _,hb.size⟩
  have h1:=H.out.fin _ h
  have h2:=hb.size
  omega
 clear hb
 go_wp2
 go_ret2
 exact⟨_,rfl,HLK.out⟩
theorem ybyy {w:World} {a:Addr} {st:Dk} {F:Nat->Prop} (h:qaw w (.pointer (some a)) st 80 F) (hN:qco st.N) (hg:∀ x ∈ ybcx st.N,ybav x) (hW:st.W.length<900000):
  Calls Tryz.prog 70 #[.pointer (some a),.int .i64 5,.int .i64 32] w fun e w'=>∃ gl,e=.returned (.tuple #[.pointer (some ⟨gl,0,none⟩),.int .i64 0])/\LogK a (qwl st) 80 (seqO st.N) F gl w w':=
 (ybyz h hN hg hW).mono fun _e _w' ⟨gl,he,h1,F',h2,h3,h4,h5,h6⟩=>⟨gl,he,F',h2,h3,h4,h5,h6,h1⟩
theorem ybfl {w:World} {v:Value} {E:List Nd} {L:List Pn} {G:Nat->Prop} (hv:qai w v 8 L.length (qax E)) (hE:qbo G w E L) (hl:L.length=32):
  ∃ gn on cn,v=.slice (some ⟨gn,on,none⟩) 32 cn/\gn<w.heap.size/\∀ (i:Nat) (X:Pn),L[i]? = some X->∃ yq yn yc,
   w.cell? ⟨gn,on+i*8,none⟩=some (.int .i64 X.k)/\w.cell? ⟨gn,on+i*8+1,none⟩=some (.int .i64 X.m)/\w.cell? ⟨gn,on+i*8+2,none⟩=some (.int .i64 X.u)/\w.cell? ⟨gn,on+i*8+3,none⟩=some (.int .i64 X.g) /\
   w.cell? ⟨gn,on+i*8+4,none⟩=some (.int .i64 X.s)/\w.cell? ⟨gn,on+i*8+5,none⟩=some (.int .i64 X.l)/\w.cell? ⟨gn,on+i*8+6,none⟩=some (.int .i64 X.up)/\w.cell? ⟨gn,on+i*8+7,none⟩=some (.slice yq yn yc) /\
   Out G w (fun w'=>qao w' (.slice yq yn yc) X.P):=by
 have hEL:E.length=32:=by rw[hE.1];exact hl
 rw[<-hE.1]at hv
 obtain⟨p2,cp2,hv2,HP⟩:=qel hv
 rw[hEL]at hv2 HP
 subst hv2
 obtain⟨g,o,rfl,hg,hc⟩:=HP.out (by omega)
 refine⟨g,o,cp2,rfl,hg,fun i X hX=>?_⟩
 have hiL:i<L.length:=(List.getElem?_eq_some_iff.1 hX).1
 have hiE:i<E.length:=by omega
 obtain⟨e0,e1,e2,e3,e4,e5,e6,e7⟩:=qcz hc i hiE
 have HND:=hE.2 i hiE hiL
 have hXX:L[i]=X:=by rw[List.getElem?_eq_getElem hiL]at hX;injection hX
 rw[hXX]at HND
 obtain⟨f0,f1,f2,f3,f4,f5,f6,HIY⟩:=HND
 rw[f0]at e0;rw[f1]at e1;rw[f2]at e2;rw[f3]at e3;rw[f4]at e4;rw[f5]at e5;rw[f6]at e6
 exact⟨_,_,_,e0,e1,e2,e3,e4,e5,e6,e7,HIY⟩
def useP (X:Pn) (user:Int):Nat:=if X.k ≠ 0/\X.u=user then qoz X.P else 0
def qkv (L:List Pn) (user:Int):Nat->Nat
 | 0=>0
 | j+1=>qkv L user j+useP (L.getD j zN) user
theorem ybgo {L:List Pn} (h:∀ X ∈ L,X.P.length<=8) (user:Int):∀ j,qkv L user j<=8*j
 | 0=>Nat.le_refl _
 | j+1=>by
  have ih:=ybgo h user j
  have h1:useP (L.getD j zN) user<=8:=by
   unfold useP
   split
   ·by_cases hj:j<L.length
    ·have:=h _ (List.getElem_mem hj)
     have h2:=ybgn L[j].P
     rw[List.getD_eq_getElem?_getD,List.getElem?_eq_getElem hj,Option.getD_some]
     omega
    ·rw[List.getD_eq_getElem?_getD,List.getElem?_eq_none (by omega)]
     decide
   ·omega
  unfold qkv
  omega
theorem ybhs {w:World} {v:Value} {E:List Nd} {L:List Pn} {G:Nat->Prop} (hv:qai w v 8 L.length (qax E)) (hE:qbo G w E L) (hl:L.length=32) (hP:∀ X ∈ L,X.P.length<=8) (user:Int):
  Calls Tryz.prog 58 #[v,.int .i64 user] w (fun e w'=>e=.returned (.int .i64 (qkv L user 32:Int))/\Below w.heap.size w w'):=by
 obtain⟨gn,on,cn,rfl,hgn,HC⟩:=ybfl hv hE hl
 have HC:=Lib.hid HC
 have HLL:=Lib.hid hl
 have HPP:=Lib.hid hP
 have hle:=ybgo hP user
 have HLE:=Lib.hid hle
 clear hv hE hl hP hle
 go_enter Tryz.func58,Tryz.ntmps58
 go_wp2
 go_loopw [5,10] (fun kv iv wr=>∃ j:Nat,j<=32/\iv=.int .i64 j/\kv=.int .i64 (qkv L user j:Int)/\Hid (Below w.heap.size w wr)) (fun _ iv _=>32 - (intOf iv).toNat)
 case atStart=>exact⟨0,by omega,rfl,rfl,Below.refl _ _⟩
 case round=>
  obtain⟨j,hj,rfl,rfl,HB⟩:=hrel
  by_cases hj32:j<32
  ·have hj32':(j:Int)<32:=by omega
   have hjL:j<L.length:=by rw[HLL.out];exact hj32
   obtain⟨X,HX⟩:∃ X,Hid (L[j]? = some X):=⟨_,List.getElem?_eq_getElem hjL⟩
   have HXD:Hid (L.getD j zN=X):=by show _=_;rw[List.getD_eq_getElem?_getD,HX.out];rfl
   have hXP:X.P.length<=8:=HPP.out X (List.mem_of_getElem? HX.out)
   obtain⟨yq,yn,yc,e0,e1,e2,e3,e4,e5,e6,e7,hI⟩:=HC.out j X HX.out
   have cc:=fun i=>HB.out.cell (p:=⟨gn,i,none⟩) hgn
   rw[<-cc]at e0 e1 e2 e3 e4 e5 e6 e7
   have HI:=Lib.hid (qai.below hI.now HB.out)
   have HSTEP:Hid (qkv L user (j+1)=qkv L user j+useP X user):=by show _=_;rw[<-HXD.out];rfl
   have hb1:=HLE.out j
   obtain⟨U,HU⟩:∃ U,Hid (qkv L user j=U):=⟨_,rfl⟩
   rw[HU.out]at hb1 ⊢
   have hgw:¬ gn=wr.heap.size:=by have:=HB.out.size;omega
   obtain⟨y,Hy⟩:∃ y,Hid (X.k=y):=⟨_,rfl⟩
   obtain⟨z,Hz⟩:∃ z,Hid (X.u=z):=⟨_,rfl⟩
   rw[Hy.out]at e0
   rw[Hz.out]at e2
   have HBE:Hid (Below w.heap.size w (wr.alloc (.cells #[.int .i64 y,.int .i64 X.m,.int .i64 z,.int .i64 X.g,.int .i64 X.s,.int .i64 X.l,.int .i64 X.up,.slice yq yn yc] 103))):=HB.out.alloc HB.out.size _
   clear hI cc
   by_cases hy:y=0
   ·subst hy
    have HS2:Hid (qkv L user (j+1)=U):=by show _=_;rw[HSTEP.out,HU.out];unfold useP;rw[if_neg (by rw[Hy.out];simp)];rfl
    go_wp2
    go_roundw
    case rel=>exact⟨j+1,by omega,by go_num,by rw[HS2.out],HBE⟩
    case measure=>simp[intOf];omega
   ·have b0:(y == 0)=false:=by simpa using hy
    have b1:(y != 0)=true:=by simpa using hy
    by_cases hz:z=user
    ·subst hz
     have HS2:Hid (qkv L z (j+1)=U+qoz X.P):=by show _=_;rw[HSTEP.out,HU.out];unfold useP;rw[if_pos ⟨by rw[Hy.out];exact hy,Hz.out⟩]
     have HUE:=Lib.hid (ybgn X.P)
     have HUS:=Lib.hid (fun (W:World) (hW:Below wr.heap.size wr W)=>ybvo y X.m z X.g X.s X.l X.up (.slice yq yn yc) X.P W (qai.below HI.out hW) (by omega))
     obtain⟨V,HV⟩:∃ V,Hid (qoz X.P=V):=⟨_,rfl⟩
     rw[HV.out]at HUS HUE HS2
     have i1:IntKind.i64.wrap ((U:Int)+(V:Int))=(U:Int)+(V:Int):=IntWalk.i64_in _ (by have:=HUE.out;omega)
     have HAL:Hid (Below wr.heap.size wr (wr.alloc (.cells #[.int .i64 y,.int .i64 X.m,.int .i64 z,.int .i64 X.g,.int .i64 X.s,.int .i64 X.l,.int .i64 X.up,.slice yq yn yc] 103))):=(Below.refl _ _).alloc (Nat.le_refl _) _
     go_wp2_with fail
     refine (HUS.out _ HAL.out).mono ?_
     rintro e w2 ⟨rfl,hb2⟩
     have HB2:Hid (Below w.heap.size w w2):=Below.step HBE.out hb2
     clear hb2
     go_wp2
     go_roundw
     case rel=>exact⟨j+1,by omega,by go_num,by rw[HS2.out];go_num,HB2⟩
     case measure=>simp[intOf];omega
    ·have b2:(z == user)=false:=by simpa using hz
     have HS2:Hid (qkv L user (j+1)=U):=by show _=_;rw[HSTEP.out,HU.out];unfold useP;rw[if_neg (by rw[Hz.out];simp[hz])];rfl
     go_wp2
     go_roundw
     case rel=>exact⟨j+1,by omega,by go_num,by rw[HS2.out],HBE⟩
     case measure=>simp[intOf];omega
  ·obtain rfl:j=32:=by omega
   go_wp2
   go_ret
   exact⟨rfl,HB.out⟩
theorem ybsm {w:World} {gf:Nat} {s:Fs} {F:Nat->Prop} {B:Nat} {a:Addr} (h:FsAt w gf s F B a):∃ nv E,w.cell? ⟨gf,195,none⟩=some nv/\qai w nv 8 s.nodes.length (qax E)/\qbo F w E s.nodes:=by
 obtain⟨⟨gl,rv,nv,bt,bh,E,tl,FD,h1,h2,h3,h4,h5,h6,h7,h8,h9,h10,h11,h12,h13,h14,h15,h16,h17⟩,a1,a2,a3,a4,a5,a6,a7⟩:=h
 obtain⟨_,_,_,c195,_,_⟩:=qev h1
 have:=h8.now
 rw[h9.1]at this
 exact⟨nv,E,c195,this,h9⟩
theorem ybxz {w:World} {gf:Nat} {s:Fs} {F:Nat->Prop} {B:Nat} {a:Addr} (h:FsAt w gf s F B a) (hP:∀ X ∈ s.nodes,X.P.length<=8) (user:Int) (hu:0<=user/\user<=255):
  Calls Tryz.prog 19 #[.pointer (some ⟨gf,0,none⟩),.int .i64 user] w (fun e w'=>e=.returned (.tuple #[.int .i64 (qkv s.nodes user 32:Int),.int .i64 0])/\Below w.heap.size w w'):=by
 obtain⟨nv,E,c195,h1,h2⟩:=ybsm h
 obtain⟨gn,on,cn,rfl,_,_⟩:=ybfl h1 h2 h.len
 have HU:=Lib.hid (ybhs h1 h2 h.len hP user)
 obtain⟨u1,u2⟩:=hu
 have d1:decide (user<0)=false:=decide_eq_false (by omega)
 have d2:decide (255<user)=false:=decide_eq_false (by omega)
 have d3:¬ (user<0):=by omega
 have d4:¬ (255<user):=by omega
 generalize qkv s.nodes user 32=U at *
 clear h h1 h2 hP
 go_enter Tryz.func19,Tryz.ntmps19
 go_wp2_with fail
 refine HU.out.mono ?_
 rintro e w1 ⟨rfl,hb1⟩
 have HB1:=Lib.hid hb1
 clear hb1
 go_wp2
 go_ret2
 exact⟨rfl,HB1.out⟩
theorem ybxx {w:World} {gf:Nat} {s:Fs} {F:Nat->Prop} {B:Nat} {a:Addr} (h:FsAt w gf s F B a):
  Calls Tryz.prog 13 #[.pointer (some ⟨gf,0,none⟩)] w (fun e w'=>e=.returned (.int .i64 (s.k:Int))/\w=w'):=by
 obtain⟨⟨gl,rv,nv,bt,bh,E,tl,FD,h1,h2,h3,h4,h5,h6,h7,h8,h9,h10,h11,h12,h13,h14,h15,h16,h17⟩,a1,a2,a3,a4,a5,a6,a7⟩:=h
 obtain⟨c0,_,_,_,_,_⟩:=qev h1
 have HS:=Lib.hid (qfz h2)
 clear h1 h2 h3 h4 h5 h6 h7 h8 h9 h10 h11 h12 h13 h14 h15 h16 h17 a1 a2 a3 a4 a5 a6 a7
 go_enter Tryz.func13,Tryz.ntmps13
 go_wp2_with fail
 refine HS.out.mono ?_
 rintro e w1 ⟨rfl,rfl⟩
 go_wp2
 go_ret
 simp
theorem ybde {w:World} {gf:Nat} {s:Fs} {F:Nat->Prop} {B:Nat} {a:Addr} (h:FsAt w gf s F B a) (n:Nat) (hn:n<s.k):
  Calls Tryz.prog 251 #[.agg #[.pointer (some ⟨gf,0,none⟩)],.int .i64 (n:Int)] w (qqw (secE s n) w):=by
 have HBX:Hid (Below w.heap.size w (w.alloc (.cells #[.pointer (some ⟨gf,0,none⟩)] 90))):=(Below.refl _ _).alloc (Nat.le_refl _) _
 have HS:=Lib.hid (qrq (h.below HBX.out) n hn)
 generalize secE s n=D at *
 clear h
 go_enter Tryz.func251,Tryz.ntmps251
 go_wp2_with fail
 refine HS.out.mono ?_
 rintro e w1 ⟨v,rfl,g,cap,cur,h1,h2,h3,h4,h5⟩
 have HR:Hid (qes D w v w1):=⟨g,cap,cur,h1,⟨Nat.le_trans HBX.out.size h2.1,h2.2⟩,h3,h4,Below.step HBX.out h5⟩
 clear h1 h2 h3 h4 h5
 go_wp2
 go_ret2
 exact⟨v,rfl,HR.out⟩
theorem ybdf {w:World} {gf:Nat} {s:Fs} {F:Nat->Prop} {B:Nat} {a:Addr} (h:FsAt w gf s F B a):
  Calls Tryz.prog 252 #[.agg #[.pointer (some ⟨gf,0,none⟩)]] w (fun e w'=>e=.returned (.int .i64 (s.k:Int))/\Below w.heap.size w w'):=by
 have HBX:Hid (Below w.heap.size w (w.alloc (.cells #[.pointer (some ⟨gf,0,none⟩)] 90))):=(Below.refl _ _).alloc (Nat.le_refl _) _
 have HS:=Lib.hid (ybxx (h.below HBX.out))
 clear h
 go_enter Tryz.func252,Tryz.ntmps252
 go_wp2_with fail
 refine HS.out.mono ?_
 rintro e w1 ⟨rfl,rfl⟩
 go_wp2
 go_ret
 exact⟨rfl,HBX.out⟩
def qnz (s:Fs):Prop:=∀ n,n<s.k->∀ x ∈ secE s n,0<=x/\x<=255
def fsRdr (gf:Nat):Rdr:=⟨90,.agg #[.pointer (some ⟨gf,0,none⟩)],251,252,.agg #[.pointer (some ⟨gf,0,none⟩)],.agg #[.pointer (some ⟨gf,0,none⟩)]⟩
theorem fsRdr1 (gf : Nat) : ∀ W : World, (nilAhead 403 90 (.agg #[.pointer (some ⟨gf, 0, none⟩)]) "Read").run Tryz.prog W = .ok (some false) W := fun W => by kernel_rfl
theorem fsRdr2 (gf : Nat) : ∀ W : World, (nilAhead 403 90 (.agg #[.pointer (some ⟨gf, 0, none⟩)]) "Size").run Tryz.prog W = .ok (some false) W := fun W => by kernel_rfl
theorem fsRdr3 (gf : Nat) : ∀ W : World, (method 403 90 (.agg #[.pointer (some ⟨gf, 0, none⟩)]) "Read").run Tryz.prog W = .ok (251, (.agg #[.pointer (some ⟨gf, 0, none⟩)])) W := fun W => by kernel_rfl
theorem fsRdr4 (gf : Nat) : ∀ W : World, (method 403 90 (.agg #[.pointer (some ⟨gf, 0, none⟩)]) "Size").run Tryz.prog W = .ok (252, (.agg #[.pointer (some ⟨gf, 0, none⟩)])) W := fun W => by kernel_rfl
theorem fsRdr5 (gf:Nat):∀ (x:Value) (W:World),(callFunc 251 #[(.agg #[.pointer (some ⟨gf,0,none⟩)]),x]).run Tryz.prog W=.ok (.enter 251 #[(.agg #[.pointer (some ⟨gf,0,none⟩)]),x]) W:=fun x W=>by kernel_rfl
theorem fsRdr6 (gf:Nat):∀ W:World,(callFunc 252 #[(.agg #[.pointer (some ⟨gf,0,none⟩)])]).run Tryz.prog W=.ok (.enter 252 #[(.agg #[.pointer (some ⟨gf,0,none⟩)])]) W:=fun W=>by kernel_rfl
theorem ybwd {w:World} {gf:Nat} {s:Fs} {F:Nat->Prop} {B:Nat} {a:Addr} (h:FsAt w gf s F B a) (hb:qnz s):RdAt w (fsRdr gf) (secE s) s.k:=
 ⟨fsRdr1 gf,fsRdr2 gf,fsRdr3 gf,fsRdr4 gf,fsRdr5 gf,fsRdr6 gf,
  fun _w' hw n hn=>ybde (h.below hw) n hn,fun _w' hw=>ybdf (h.below hw),fun n hn=>qww h n hn,hb⟩
def dkRdr (a:Addr):Rdr:=⟨25,.pointer (some a),69,41,.pointer (some a),.pointer (some a)⟩
theorem dkRdr1 (a : Addr) : ∀ W : World, (nilAhead 403 25 (.pointer (some a)) "Read").run Tryz.prog W = .ok (some false) W := fun W => by kernel_rfl
theorem dkRdr2 (a : Addr) : ∀ W : World, (nilAhead 403 25 (.pointer (some a)) "Size").run Tryz.prog W = .ok (some false) W := fun W => by kernel_rfl
theorem dkRdr3 (a : Addr) : ∀ W : World, (method 403 25 (.pointer (some a)) "Read").run Tryz.prog W = .ok (69, (.pointer (some a))) W := fun W => by kernel_rfl
theorem dkRdr4 (a : Addr) : ∀ W : World, (method 403 25 (.pointer (some a)) "Size").run Tryz.prog W = .ok (41, (.pointer (some a))) W := fun W => by kernel_rfl
theorem dkRdr5 (a:Addr):∀ (x:Value) (W:World),(callFunc 69 #[(.pointer (some a)),x]).run Tryz.prog W=.ok (.enter 69 #[(.pointer (some a)),x]) W:=fun x W=>by kernel_rfl
theorem dkRdr6 (a:Addr):∀ W:World,(callFunc 41 #[(.pointer (some a))]).run Tryz.prog W=.ok (.enter 41 #[(.pointer (some a))]) W:=fun W=>by kernel_rfl
theorem ybvy {w:World} {a:Addr} {st:Dk} {k:Nat} {F:Nat->Prop} (h:qaw w (.pointer (some a)) st k F) (hb:∀ n,n<k->∀ x ∈ sec st.N n,0<=x/\x<=255):RdAt w (dkRdr a) (sec st.N) k:=
 ⟨dkRdr1 a,dkRdr2 a,dkRdr3 a,dkRdr4 a,dkRdr5 a,dkRdr6 a,
  fun _w' hw n hn=>qka (h.below hw) n hn,fun _w' hw=>(qfz (h.below hw)).mono fun _e _w2 ⟨he,hw2⟩=>⟨he,hw2 ▸ Below.refl _ _⟩,fun _n hn=>qhu h.lens.2 hn,hb⟩
theorem ybsl {w:World} {gf:Nat} {s:Fs} {F:Nat->Prop} {B:Nat} {a:Addr} (h:FsAt w gf s F B a) (hb:qnz s) (hok:qlt (secE s) s.fo s.k):
  Calls Tryz.prog 12 #[.pointer (some ⟨gf,0,none⟩)] w (fun e w'=>e=.returned (.slice none 0 0)/\Below w.heap.size w w'):=by
 have hc:=ybbh (ybwd h hb) h.k1 h.k0 s.fo hok
 have HC:Hid (Calls Tryz.prog 11 #[.iface 90 (.agg #[.pointer (some ⟨gf,0,none⟩)])] w (fun e w'=>e=.returned (.slice none 0 0)/\Below w.heap.size w w')):=hc
 clear h hb hok
 go_enter Tryz.func12,Tryz.ntmps12
 go_wp2_with fail
 refine HC.out.mono ?_
 rintro e w1 ⟨rfl,hb1⟩
 have HB1:=Lib.hid hb1
 clear hb1
 go_wp2
 go_ret
 exact⟨rfl,HB1.out⟩
def qgc (D:List Int) (at0 n:Nat):List Int:=(D.drop at0).take n
end Go.Proofs.YtpoglnpjadmbpaaGreatDoor
