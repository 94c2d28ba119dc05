/- Part of the proofs of FsLinks: the texts Snap, Snap2, Snap4, Snap5, Snap6, Snap7, QuLaws. -/
import Derived.Test.YtpoglnpjadmbpaaGreatDoorKA7
import Derived.Laws.AppendOwn
set_option maxHeartbeats 16000000
set_option maxRecDepth 100000
namespace Go.Proofs.YtpoglnpjadmbpaaGreatDoor
open Go.RowKit
structure Fo where
 nd:Nat->Nat->Int
 hs:Nat->Nat->Bool
def qdb (f:Fo) (k j:Nat):Value:=if j<16 then .int .i64 (f.nd k j) else .int .u8 (qbq (f.hs k) (j - 16))
def encF (f:Fo):Array Value:=Array.ofFn (n:=192) fun i=>qdb f (i.val / 48) (i.val % 48)
def encT (f:Fo) (k:Nat):Array Value:=Array.ofFn (n:=48) fun j=>qdb f k j.val
def encN (f:Fo) (k:Nat):Array Value:=Array.ofFn (n:=16) fun j=>qdb f k j.val
theorem qak (f:Fo):(encF f).size=192:=by simp[encF]
theorem qgs (f:Fo) (k:Nat):(encT f k).size=48:=by simp[encT]
theorem qmg (f:Fo) (k:Nat):(encN f k).size=16:=by simp[encN]
theorem qbz (f:Fo) (k j:Nat) (hk:k<4) (hj:j<48):(encF f)[k*48+j]? = some (qdb f k j):=by
 have h:k*48+j<192:=by omega
 simp only[encF,Array.getElem?_ofFn,dif_pos h]
 rw[show (k*48+j) / 48=k by omega,show (k*48+j) % 48=j by omega]
theorem qmh (f:Fo) (k j:Nat) (hj:j<48):(encT f k)[j]? = some (qdb f k j):=by
 simp only[encT,Array.getElem?_ofFn,dif_pos hj]
theorem qpz (f:Fo) (k j:Nat) (hj:j<16):(encN f k)[j]? = some (qdb f k j):=by
 simp only[encN,Array.getElem?_ofFn,dif_pos hj]
theorem qxt (f:Fo) (k j:Nat):(qdb f k j).oneCell'=true:=by unfold qdb;split <;> rfl
theorem qis (f:Fo):(encF f).all (·.oneCell')=true:=by
 rw[Array.all_eq_true_iff_forall_mem]
 intro x hx
 obtain⟨i,hi,rfl⟩:=Array.mem_iff_getElem.1 hx
 simp only[encF,Array.getElem_ofFn]
 exact qxt _ _ _
theorem ybem (f:Fo) (k:Nat):(encT f k).all (·.oneCell')=true:=by
 rw[Array.all_eq_true_iff_forall_mem]
 intro x hx
 obtain⟨i,hi,rfl⟩:=Array.mem_iff_getElem.1 hx
 simp only[encT,Array.getElem_ofFn]
 exact qxt _ _ _
theorem qnh (f:Fo) (k:Nat) (hk:k<4):∀ j,j<(enc (f.hs k)).size->(encF f)[k*48+16+j]? = (enc (f.hs k))[j]? :=fun j hj=>by
 rw[qau]at hj
 rw[Nat.add_assoc,qbz f k (16+j) hk (by omega),qdh _ _ hj]
 unfold qdb
 rw[if_neg (by omega),show 16+j - 16=j by omega]
theorem qsk (f:Fo) (k:Nat) (hk:k<4):∀ j,j<(encT f k).size->(encF f)[k*48+j]? = (encT f k)[j]? :=fun j hj=>by
 rw[qgs]at hj
 rw[qbz f k j hk hj,qmh f k j hj]
theorem qot (f:Fo) (k:Nat) (hk:k<4):∀ j,j<(encN f k).size->(encF f)[k*48+j]? = (encN f k)[j]? :=fun j hj=>by
 rw[qmg]at hj
 rw[qbz f k j hk (by omega),qpz f k j hj]
def qbd (f:Fo) (k:Nat):Bool:= !(f.nd k 0 == 0)
theorem forT : Tryz.prog.underlying 80=some (.array 4 78):=by kernel_rfl
theorem forI : (Tryz.prog.info? 80).map (·.size)=some 192:=by kernel_rfl
theorem ybjp : (Tryz.prog.info? 78).map (·.size)=some 48:=by kernel_rfl
theorem qze : (Tryz.prog.info? 74).map (·.size)=some 16:=by kernel_rfl
theorem ybpo (A:Array Value) (k:Nat) (x:Int) (w:World) (hk:k<4) (hx:A[k*48]? = some (.int .i64 x)):
  Calls Tryz.prog 38 #[.agg A,.int .i64 (k:Int)] w fun e w'=>e=.returned (.bool (!(x == 0)))/\Below w.heap.size w w':=by
 have hk2:(k:Int)<4:=by omega
 have hk3:(0:Int)<=(k:Int):=by omega
 by_cases h0:x=0
 ·subst h0
  go_enter Tryz.func38,Tryz.ntmps38
  go_wp2
  go_ret
  exact⟨rfl,(Below.refl _ _).alloc (Nat.le_refl _) _⟩
 ·have b1:(x == 0)=false:=by simpa using h0
  have b2:(x != 0)=true:=by simpa using h0
  have H0:=Lib.hid h0
  clear h0
  go_enter Tryz.func38,Tryz.ntmps38
  go_wp2
  go_ret
  rw[b1]
  exact⟨rfl,(Below.refl _ _).alloc (Nat.le_refl _) _⟩
theorem qnt (f:Fo) (k:Nat) (w:World) (hk:k<4):
  Calls Tryz.prog 38 #[.agg (encF f),.int .i64 (k:Int)] w fun e w'=>e=.returned (.bool (qbd f k))/\Below w.heap.size w w':=
 ybpo _ k (f.nd k 0) w hk (by have:=qbz f k 0 hk (by omega);rw[Nat.add_zero]at this;rw[this];rfl)
def qdc (f:Fo):Nat->Nat->Bool
 | 0=>emp
 | 1=>emp
 | k+2=>if qbd f (k+1) then join (qdc f (k+1)) (f.hs (k+1)) else qdc f (k+1)
def qfe (f:Fo):Nat->Nat->Bool
 | 0=>emp
 | k+1=>if qbd f k then join (qfe f k) (f.hs k) else qfe f k
theorem qpl (f:Fo) (n k:Nat) (hk:1<=k) (h:qdc f k n=true):∀ m,qdc f (k+m) n=true
 | 0=>h
 | m+1=>by
  have ih:=qpl f n k hk h m
  obtain⟨j,hj⟩:∃ j,k+m=j+1:=⟨k+m - 1,by omega⟩
  rw[show k+(m+1)=j+2 by omega]
  rw[hj]at ih
  show (if qbd f (j+1)=true then join (qdc f (j+1)) (f.hs (j+1)) else qdc f (j+1)) n=true
  split
  ·show (qdc f (j+1) n || f.hs (j+1) n)=true
   rw[ih];rfl
  ·exact ih
theorem ybyc (A:Array Value) (n:Nat) (hn:256<=n) (w:World):
  Calls Tryz.prog 125 #[.agg A,.int .i64 n] w fun e w'=>e=.returned (.bool false)/\Below w.heap.size w w':=by
 have d1:decide ((n:Int)<256)=false:=by rw[decide_eq_false_iff_not];omega
 have d2:¬ (n:Int)<256:=by omega
 have d3:decide ((0:Int)<=(n:Int))=true:=by rw[decide_eq_true_iff];omega
 go_enter Tryz.func125,Tryz.ntmps125
 go_wp2
 go_ret
 exact⟨rfl,(Below.refl _ _).alloc (Nat.le_refl _) _⟩
theorem ybjm (f:Fo) (A:Array Value) (HA:Hid (A=encF f)) (n:Nat) (hn:n<256\/∀ k,f.hs k n=false) (w:World):
  Calls Tryz.prog 139 #[.agg A,.int .i64 (n:Int)] w fun e w'=>e=.returned (.bool (qdc f 4 n))/\Below w.heap.size w w':=by
 have HAS:Hid (A.size=192):=by rw[HA.out];exact qak f
 go_enter Tryz.func139,Tryz.ntmps139
 go_wp2
 go_loopw [5] (fun i wr=>∃ k:Nat,1<=k/\k<=4/\i=.int .i64 k/\Hid (qdc f k n=false)/\Hid (wr.heap[w.heap.size]? = some (.cells A 80 (0,0)))/\Below w.heap.size w wr) (fun i _=>4 - (intOf i).toNat)
 case atStart=>exact⟨1,by omega,by omega,rfl,rfl,heap_alloc_new _ _,(Below.refl _ _).alloc (Nat.le_refl _) _⟩
 case round=>
  obtain⟨k,hk1,hk,rfl,HS,HF,HB⟩:=hrel
  by_cases hlt:k<4
  ·have hlt2:(k:Int)<4:=by omega
   have hk0:(0:Int)<=(k:Int):=by omega
   obtain⟨j,rfl⟩:∃ j,k=j+1:=⟨k - 1,by omega⟩
   generalize hkk:j+1=k at *
   have HKK:=Lib.hid hkk
   clear hkk
   have HTH:Hid (∀ W:World,Calls Tryz.prog 38 #[.agg A,.int .i64 (k:Int)] W fun e w'=>e=.returned (.bool (qbd f k))/\Below W.heap.size W w'):=fun W=>by rw[HA.out];exact qnt f k W hlt
   have HNX:Hid (qdc f (k+1) n=(qbd f k && f.hs k n)):=by
    show _=_
    have h0:=HS.out
    rw[<-HKK.out]at h0 ⊢
    show (if qbd f (j+1)=true then join (qdc f (j+1)) (f.hs (j+1)) else qdc f (j+1)) n=_
    cases qbd f (j+1) with
    | true=>rw[if_pos rfl];show (qdc f (j+1) n || f.hs (j+1) n)=_;rw[h0];simp
    | false=>rw[if_neg (by simp),h0];simp
   have HHAS:Hid (∀ W:World,Calls Tryz.prog 125 #[.agg (enc (f.hs k)),.int .i64 (n:Int)] W fun e w'=>e=.returned (.bool (f.hs k n))/\Below W.heap.size W w'):=fun W=>by
    by_cases h256:n<256
    ·have:=ybml (f.hs k) (n:Int) W (by omega) (by omega)
     rw[Int.toNat_natCast]at this;exact this
    ·rw[(hn.resolve_left h256) k]
     exact ybyc _ n (by omega) W
   have HP:Hid (∀ j,j<(enc (f.hs k)).size->A[k*48+16+j]? = (enc (f.hs k))[j]?):=by rw[HA.out];exact qnh f k hlt
   obtain⟨E,HE⟩:∃ E,Hid (E=enc (f.hs k)):=⟨_,rfl⟩
   have HES:Hid (E.size=32):=by rw[HE.out];exact qau _
   rw[<-HE.out]at HHAS HP
   go_wp2_with (refine wpList_load_row rfl 80 (.tmp 2) rfl w.heap.size rfl 80 A (0,0) _ HF.out forT rfl (by rw[HAS.out];exact forI) ?_)
   refine (HTH.out _).mono ?_
   cases hth:qbd f k with
   | false=>
    rintro e w1 ⟨rfl,hb1⟩
    rw[hth]at HNX
    have HF1:=Lib.hid (qaa hb1 HF.out)
    have hB1:=Below.step HB hb1
    clear hth hb1
    go_wp2
    go_roundw
    case rel=>exact⟨k+1,by omega,by omega,by go_num,HNX.out,HF1,hB1⟩
    case measure=>simp[intOf];omega
   | true=>
    rintro e w1 ⟨rfl,hb1⟩
    rw[hth,Bool.true_and]at HNX
    have HF1:=Lib.hid (qaa hb1 HF.out)
    have hB1:=Below.step HB hb1
    clear hth hb1
    go_wp2_with (refine qar (by kernel_rfl) 76 (.tmp 16) rfl w.heap.size (k*48+16) rfl 80 A E (0,0) _ HF1.out HP.out setT rfl (by rw[HES.out];exact setI) ?_)
    refine (HHAS.out _).mono ?_
    cases hh:f.hs k n with
    | true=>
     rintro e w2 ⟨rfl,hb2⟩
     have hB2:=Below.step hB1 hb2
     have HFIN:Hid (qdc f 4 n=true):=by
      have:=qpl f n (k+1) (by omega) (by rw[HNX.out];exact hh) (4 - (k+1))
      rw[show k+1+(4 - (k+1))=4 by omega]at this
      exact this
     clear hh hb2
     go_wp2
     go_ret
     rw[HFIN.out]
     exact⟨rfl,hB2⟩
    | false=>
     rintro e w2 ⟨rfl,hb2⟩
     have hB2:=Below.step hB1 hb2
     have HF2:=Lib.hid (qaa hb2 HF1.out)
     rw[hh]at HNX
     clear hh hb2
     go_wp2
     go_roundw
     case rel=>exact⟨k+1,by omega,by omega,by go_num,HNX.out,HF2,hB2⟩
     case measure=>simp[intOf];omega
  ·obtain rfl:k=4:=by omega
   go_wp2
   go_ret
   rw[HS.out]
   exact⟨rfl,HB⟩
theorem ybpa (f:Fo) (n:Nat) (hn:n<256) (w:World):
  Calls Tryz.prog 139 #[.agg (encF f),.int .i64 (n:Int)] w fun e w'=>e=.returned (.bool (qdc f 4 n))/\Below w.heap.size w w':=ybjm f _ rfl n (Or.inl hn) w
theorem ybpn (f:Fo) (A S4:Array Value) (HA:Hid (A=encF f)) (H4:Hid (S4=enc (qfe f 4))) (w:World):
  Calls Tryz.prog 171 #[.agg A] w fun e w'=>e=.returned (.agg S4)/\Below w.heap.size w w':=by
 have HAS:Hid (A.size=192):=by rw[HA.out];exact qak f
 obtain⟨Z0,HZ0⟩:∃ Z,Hid (Z=enc emp):=⟨_,rfl⟩
 have hz:∀ w,(zeroValue 76).run Tryz.prog w=.ok (.agg Z0) w:=by rw[HZ0.out];exact setZ
 have HZ:=Lib.hid hz
 clear hz
 go_enter Tryz.func171,Tryz.ntmps171
 go_wp2_with (refine qbh rfl 76 rfl Z0 HZ.out ?_)
 go_loopw [5] (fun i wr=>∃ k:Nat,k<=4/\i=.int .i64 k/\Hid (wr.heap[w.heap.size]? = some (.cells A 80 (0,0)))/\Hid (wr.heap[w.heap.size+1]? = some (.cells Z0 76 (0,0)))/\Hid (wr.heap[w.heap.size+2]? = some (.cells (enc (qfe f k)) 76 (0,0)))/\Below w.heap.size w wr) (fun i _=>4 - (intOf i).toNat)
 case atStart=>
  refine⟨0,by omega,rfl,?_,?_,?_,(((Below.refl _ _).alloc (Nat.le_refl _) _).alloc (by simp) _).alloc (by simp;omega) _⟩
  ·exact qad (qad (heap_alloc_new w _) _) _
  ·exact qad (qcm _ _ _ (by simp)) _
  ·rw[show enc (qfe f 0)=Z0 from HZ0.out.symm]
   exact qcm _ _ _ (by simp)
 case round=>
  obtain⟨k,hk,rfl,HF,HR,HS,HB⟩:=hrel
  by_cases hlt:k<4
  ·have hlt2:(k:Int)<4:=by omega
   have hk0:(0:Int)<=(k:Int):=by omega
   have HTH:Hid (∀ W:World,Calls Tryz.prog 38 #[.agg A,.int .i64 (k:Int)] W fun e w'=>e=.returned (.bool (qbd f k))/\Below W.heap.size W w'):=fun W=>by rw[HA.out];exact qnt f k W hlt
   have HP:Hid (∀ j,j<(enc (f.hs k)).size->A[k*48+16+j]? = (enc (f.hs k))[j]?):=by rw[HA.out];exact qnh f k hlt
   obtain⟨E,HE⟩:∃ E,Hid (E=enc (f.hs k)):=⟨_,rfl⟩
   have HES:Hid (E.size=32):=by rw[HE.out];exact qau _
   rw[<-HE.out]at HP
   obtain⟨S,HSE⟩:∃ S,Hid (S=enc (qfe f k)):=⟨_,rfl⟩
   have HSS:Hid (S.size=32):=by rw[HSE.out];exact qau _
   rw[<-HSE.out]at HS
   go_wp2_with (refine wpList_load_row rfl 80 (.tmp 1) rfl w.heap.size rfl 80 A (0,0) _ HF.out forT rfl (by rw[HAS.out];exact forI) ?_)
   refine (HTH.out _).mono ?_
   cases hth:qbd f k with
   | false=>
    rintro e w1 ⟨rfl,hb1⟩
    have HNX:Hid (qfe f (k+1)=qfe f k):=by show (if qbd f k=true then _ else _)=_;rw[hth,if_neg (by simp)]
    have HF1:=Lib.hid (qaa hb1 HF.out)
    have HR1:=Lib.hid (qaa hb1 HR.out)
    have HS1:Hid (w1.heap[w.heap.size+2]? = some (.cells (enc (qfe f (k+1))) 76 (0,0))):=by rw[HNX.out,<-HSE.out];exact qaa hb1 HS.out
    have hB1:=Below.step HB hb1
    clear hth hb1
    go_wp2
    go_roundw
    case rel=>exact⟨k+1,by omega,by go_num,HF1,HR1,HS1,hB1⟩
    case measure=>simp[intOf];omega
   | true=>
    rintro e w1 ⟨rfl,hb1⟩
    have HNX:Hid (qfe f (k+1)=join (qfe f k) (f.hs k)):=by show (if qbd f k=true then _ else _)=_;rw[hth,if_pos rfl]
    have HF1:=Lib.hid (qaa hb1 HF.out)
    have HR1:=Lib.hid (qaa hb1 HR.out)
    have HS1:=Lib.hid (qaa hb1 HS.out)
    have hB1:=Below.step HB hb1
    obtain⟨J,HJ⟩:∃ J,Hid (J=enc (qfe f (k+1))):=⟨_,rfl⟩
    have HJS:Hid (J.size=32):=by rw[HJ.out];exact qau _
    have HJ1:Hid (J.all (·.oneCell')=true):=by rw[HJ.out];exact qit _
    have HJC:Hid (∀ W:World,Calls Tryz.prog 201 #[.agg S,.agg E] W fun e w'=>e=.returned (.agg J)/\Below W.heap.size W w'):=fun W=>by
     rw[HSE.out,HE.out,HJ.out,HNX.out];exact ybsr _ _ W
    clear hth hb1
    go_wp2_with fail
    refine wp_region_still_tail 5 (by kernel_rfl) (by kernel_rfl) ?_
    simp only[List.take_succ_cons,List.take_zero,List.drop_succ_cons,List.drop_zero]
    refine qip (by kernel_rfl) 76 (.tmp 3) rfl (w.heap.size+2) 0 rfl 76 S S (0,0) _ HS1.out (ybuf S) setT rfl (by rw[HSS.out];exact setI) ?_
    still_step
    still_step
    still_step
    refine qip (by kernel_rfl) 76 (.tmp 14) rfl w.heap.size (k*48+16) rfl 80 A E (0,0) _ HF1.out HP.out setT rfl (by rw[HES.out];exact setI) ?_
    refine wpStill_nil ?_
    go_wp2_with fail
    refine (HJC.out _).mono ?_
    rintro e w2 ⟨rfl,hb2⟩
    have HF2:Hid (w2.heap[w.heap.size]? = some (.cells A 80 (0,0))):=qaa hb2 HF1.out
    have HR2:Hid (w2.heap[w.heap.size+1]? = some (.cells Z0 76 (0,0))):=qaa hb2 HR1.out
    have HS2:Hid (w2.heap[w.heap.size+2]? = some (.cells S 76 (0,0))):=qaa hb2 HS1.out
    have hB2:Below w.heap.size w w2:=Below.step hB1.drew hb2
    clear hb2
    go_wp2_with (refine wpList_store_row rfl 76 (.tmp 3) (.tmp 16) rfl (w.heap.size+2) J rfl rfl 76 S HS2.out (by rw[HJS.out];exact setI) (by rw[HJS.out,HSS.out]) HJ1.out ?_)
    go_roundw
    case rel=>exact⟨k+1,by omega,by go_num,qeb HF2.out _ _ (by omega),qeb HR2.out _ _ (by omega),by rw[<-HJ.out];exact setRow_heap _ _ _ _ _ _ HS2.out,Below.setRow hB2 (by omega) _⟩
    case measure=>simp[intOf];omega
  ·obtain rfl:k=4:=by omega
   have HSS:Hid (S4.size=32):=by rw[H4.out];exact qau _
   have HS1:Hid (S4.all (·.oneCell')=true):=by rw[H4.out];exact qit _
   have HZS:Hid (Z0.size=32):=by rw[HZ0.out];exact qau _
   rw[<-H4.out]at HS
   go_wp2_with (first
    | (refine wpList_load_row rfl 76 (.tmp 3) rfl (w.heap.size+2) rfl 76 S4 (0,0) _ HS.out setT rfl (by rw[HSS.out];exact setI) ?_)
    | (refine wpList_store_row rfl 76 (.tmp 2) (.tmp 18) rfl (w.heap.size+1) S4 rfl rfl 76 Z0 HR.out (by rw[HSS.out];exact setI) (by rw[HSS.out,HZS.out]) HS1.out ?_))
   refine bodyPost_ret (results_cell_row rfl _ _ (w.heap.size+1) 76 S4 (0,0) _ rfl (setRow_heap _ _ _ _ _ _ HR.out) setT rfl (by rw[HSS.out];exact setI)) rfl ⟨rfl,?_⟩
   exact Below.setRow HB (by omega) _
theorem ybpm (f:Fo) (w:World):
  Calls Tryz.prog 171 #[.agg (encF f)] w fun e w'=>e=.returned (.agg (enc (qfe f 4)))/\Below w.heap.size w w':=ybpn f _ _ rfl rfl w
def qiq : Fo:=⟨fun _ _=>0,fun _=>emp⟩
theorem forZ : ∀ w,(zeroValue 80).run Tryz.prog w=.ok (.agg (encF qiq)) w:=(zero_of_info (P:=Tryz.prog) (t:=80) (v:=.agg (encF qiq)) (n:=192) (by kernel_rfl)).1
section
variable {P : Program}
theorem qiz {fn:Func} {p q:Tmp} {ty:TypeId} (h:fn.results=#[.cell p ty,.tmp q]) (tmps:Array Value) (w:World) (g:Nat) (t:TypeId) (cs:Array Value) (fr:Nat × Nat) (d:TypeDesc) (v1:Value)
  (hp:tmps.getD p undef=.pointer (some ⟨g,0,none⟩)) (h1:tmps.getD q undef=v1) (hg:w.heap[g]? = some (.cells cs t fr))
  (hu:P.underlying ty=some d) (hd:(match d with | .struct _ | .array _ _=>true | _=>false)=true) (hi:(P.info? ty).map (·.size)=some cs.size):
  (results fn tmps).run P w=.ok (.tuple #[.agg cs,v1]) w:=by
 have hp':tmps[p]?.getD undef=.pointer (some ⟨g,0,none⟩):=by simpa using hp
 have h1':tmps[q]?.getD undef=v1:=by simpa using h1
 simp[results,h,hp',h1',asAddr,run_loadVar_row w g t ty cs fr d hg hu hd hi]
end
def qqx (x:Int):Bool:=decide (x<0) || decide (256<=x)
def badN (f:Fo) (k:Nat):Bool:=(List.range 16).any fun i=>qqx (f.nd k i)
def ybtu (f:Fo) (k:Nat):Bool:=qaz (encT f k) (encT qiq 0) 0 48
def badT (f:Fo) (k:Nat):Bool:= !qbd f k && !ybtu f k
def qbn (f:Fo):Int:=if badN f 0=true then 1 else if badT f 0=true then 3 else if badN f 1=true then 1 else if badT f 1=true then 3 else if badN f 2=true then 1 else if badT f 2=true then 3 else if badN f 3=true then 1 else if badT f 3=true then 3 else 0
def ybhl (f:Fo) (k:Nat):Prop:=badN f k=false/\badT f k=false
theorem qpj {f:Fo} {k:Nat} (hk:k<4) (hj:∀ j,j<k->ybhl f j) (h:badN f k=true):qbn f=1:=by
 unfold qbn
 match k,hk with
 | 0,_=>rw[if_pos h]
 | 1,_=>
  have a:=hj 0 (by omega)
  rw[a.1,a.2,if_neg (by simp),if_neg (by simp),if_pos h]
 | 2,_=>
  have a:=hj 0 (by omega)
  have b:=hj 1 (by omega)
  rw[a.1,a.2,b.1,b.2,if_neg (by simp),if_neg (by simp),if_neg (by simp),if_neg (by simp),if_pos h]
 | 3,_=>
  have a:=hj 0 (by omega)
  have b:=hj 1 (by omega)
  have c:=hj 2 (by omega)
  rw[a.1,a.2,b.1,b.2,c.1,c.2,if_neg (by simp),if_neg (by simp),if_neg (by simp),if_neg (by simp),if_neg (by simp),if_neg (by simp),if_pos h]
theorem ybdh {f:Fo} {k:Nat} (hk:k<4) (hj:∀ j,j<k->ybhl f j) (hn:badN f k=false) (h:badT f k=true):qbn f=3:=by
 unfold qbn
 match k,hk with
 | 0,_=>rw[hn,if_neg (by simp),if_pos h]
 | 1,_=>
  have a:=hj 0 (by omega)
  rw[a.1,a.2,hn,if_neg (by simp),if_neg (by simp),if_neg (by simp),if_pos h]
 | 2,_=>
  have a:=hj 0 (by omega)
  have b:=hj 1 (by omega)
  rw[a.1,a.2,b.1,b.2,hn,if_neg (by simp),if_neg (by simp),if_neg (by simp),if_neg (by simp),if_neg (by simp),if_pos h]
 | 3,_=>
  have a:=hj 0 (by omega)
  have b:=hj 1 (by omega)
  have c:=hj 2 (by omega)
  rw[a.1,a.2,b.1,b.2,c.1,c.2,hn,if_neg (by simp),if_neg (by simp),if_neg (by simp),if_neg (by simp),if_neg (by simp),if_neg (by simp),if_neg (by simp),if_pos h]
theorem ybdg {f:Fo} (hj:∀ j,j<4->ybhl f j):qbn f=0:=by
 unfold qbn
 have a:=hj 0 (by omega)
 have b:=hj 1 (by omega)
 have c:=hj 2 (by omega)
 have d:=hj 3 (by omega)
 rw[a.1,a.2,b.1,b.2,c.1,c.2,d.1,d.2,if_neg (by simp),if_neg (by simp),if_neg (by simp),if_neg (by simp),if_neg (by simp),if_neg (by simp),if_neg (by simp),if_neg (by simp)]
theorem ybaz {f:Fo} {k i:Nat} (hi:i<16) (h:qqx (f.nd k i)=true):badN f k=true:=by
 unfold badN
 rw[List.any_eq_true]
 exact⟨i,List.mem_range.2 hi,h⟩
theorem ybqs {f:Fo} {k:Nat} (h:∀ i,i<16->qqx (f.nd k i)=false):badN f k=false:=by
 cases hb:badN f k with
 | false=>rfl
 | true=>
  unfold badN at hb
  rw[List.any_eq_true]at hb
  obtain⟨i,hi,hb⟩:=hb
  rw[h i (List.mem_range.1 hi)]at hb
  cases hb
theorem qtq (f g:Fo) (k j:Nat):qea (encT f k) (encT g j) 0 48:=fun i hi=>by
 rw[Nat.zero_add,qmh f k i hi,qmh g j i hi]
 unfold qdb
 by_cases h:i<16
 ·rw[if_pos h,if_pos h];exact⟨_,_,_,rfl,rfl⟩
 ·rw[if_neg h,if_neg h];exact⟨_,_,_,rfl,rfl⟩
theorem intS : (Tryz.prog.info? 3).map (·.size)=some 1:=by kernel_rfl
theorem intT : Tryz.prog.underlying 3=some (.int .i64):=by kernel_rfl
theorem qjw : Tryz.prog.underlying 74=some (.array 16 3):=by kernel_rfl
theorem ybxl : qir Tryz.prog 9999 74 (16*1):=qmj (d:=9998) qjw intS (by kernel_rfl) (qlh (d:=9997) intT)
theorem eqSets : qir Tryz.prog 9999 76 (32*1):=qmj (d:=9998) setT byteI (by kernel_rfl) (qlh (d:=9997) byteT)
theorem qzz (f g:Fo) (k j:Nat) (w:World):(Op.equalIn 10000 78 (.agg (encT f k)) (.agg (encT g j))).run Tryz.prog w=.ok (qaz (encT f k) (encT g j) 0 48) w:=
 qst (d:=9999) Tryz.underlying78 (by kernel_rfl) (by decide) (by decide) rfl rfl ybxl eqSets _ _ w (qtq f g k j)
theorem treeZ : ∀ w,(zeroValue 78).run Tryz.prog w=.ok (.agg (encT qiq 0)) w:=(zero_of_info (P:=Tryz.prog) (t:=78) (v:=.agg (encT qiq 0)) (n:=48) (by kernel_rfl)).1
theorem ybov (f:Fo) (A:Array Value) (c:Int) (HA:Hid (A=encF f)) (Hc:Hid (c=qbn f)) (w:World):
  Calls Tryz.prog 114 #[.agg A] w fun e w'=>e=.returned (.int .i64 c)/\Below w.heap.size w w':=by
 have HAS:Hid (A.size=192):=by rw[HA.out];exact qak f
 obtain⟨ZT,HZT⟩:∃ Z,Hid (Z=encT qiq 0):=⟨_,rfl⟩
 have HZ:Hid (∀ w,(zeroValue 78).run Tryz.prog w=.ok (.agg ZT) w):=by rw[HZT.out];exact treeZ
 have HTH:Hid (∀ (k:Nat) (W:World),k<4->Calls Tryz.prog 38 #[.agg A,.int .i64 (k:Int)] W fun e w'=>e=.returned (.bool (qbd f k))/\Below W.heap.size W w'):=fun k W hk=>by rw[HA.out];exact qnt f k W hk
 go_enter Tryz.func114,Tryz.ntmps114
 go_wp2
 go_loopw [6] (fun i wr=>∃ k:Nat,k<=4/\i=.int .i64 k/\Hid (∀ j,j<k->ybhl f j)/\Hid (wr.heap[w.heap.size]? = some (.cells A 80 (0,0)))/\Below w.heap.size w wr) (fun i _=>4 - (intOf i).toNat)
 case atStart=>exact⟨0,by omega,rfl,fun j h=>by omega,heap_alloc_new _ _,(Below.refl _ _).alloc (Nat.le_refl _) _⟩
 case round=>
  obtain⟨k,hk,rfl,HK,HF,HB⟩:=hrel
  by_cases hlt:k<4
  ·have hlt2:(k:Int)<4:=by omega
   have hk0:(0:Int)<=(k:Int):=by omega
   obtain⟨NN,HNN⟩:∃ N,Hid (N=encN f k):=⟨_,rfl⟩
   have HNS:Hid (NN.size=16):=by rw[HNN.out];exact qmg _ _
   have HNP:Hid (∀ j,j<NN.size->A[k*48+j]? = NN[j]?):=by rw[HNN.out,HA.out];exact qot f k hlt
   obtain⟨wo,hwo⟩:∃ wo:World,wo=wr:=⟨_,rfl⟩
   subst hwo
   go_wp2_with (refine qar (by kernel_rfl) 74 (.tmp 11) rfl w.heap.size (k*48) rfl 80 A NN (0,0) _ HF.out HNP.out qjw rfl (by rw[HNS.out];exact qze) ?_)
   go_loop [13] (fun i=>∃ j:Nat,j<=16/\i=.int .i64 j/\Hid (∀ a,a<j->qqx (f.nd k a)=false)) (fun i=>16 - (intOf i).toNat)
   case atStart=>exact⟨0,by omega,rfl,fun a h=>by omega⟩
   case round=>
    obtain⟨j,hj,rfl,HJ⟩:=hrel
    by_cases hjl:j<16
    ·have hjl2:(j:Int)<16:=by omega
     obtain⟨x,Hx⟩:∃ x,Hid (x=f.nd k j):=⟨_,rfl⟩
     have hidx:∀ W:World,(Instr.index 74 (.agg NN) (.int .i64 (j:Int))).run Tryz.prog W=.ok (.int .i64 x) W:=fun W=>
      qey _ _ 16 .i64 NN .i64 (j:Int) qjw intT intS (by omega) (by omega) _ (by
       rw[Int.toNat_natCast,HNN.out,qpz f k j hjl,Hx.out]
       unfold qdb
       rw[if_pos hjl]) W
     by_cases x0:x<0
     ·have HE:Hid (c=1):=by rw[Hc.out];exact qpj hlt HK.out (ybaz hjl (by rw[<-Hx.out];simp[qqx,x0]))
      go_wp2
      go_ret
      rw[HE.out]
      exact⟨rfl,HB⟩
     ·by_cases x1:256<=x
      ·have HE:Hid (c=1):=by rw[Hc.out];exact qpj hlt HK.out (ybaz hjl (by rw[<-Hx.out];simp[qqx,x1]))
       go_wp2
       go_ret
       rw[HE.out]
       exact⟨rfl,HB⟩
      ·have HJ2:Hid (∀ a,a<j+1->qqx (f.nd k a)=false):=fun a ha=>by
        by_cases e:a=j
        ·rw[e,<-Hx.out];simp[qqx,x0,x1]
        ·exact HJ.out a (by omega)
       go_wp2
       go_round
       case rel=>exact⟨j+1,by omega,by go_num,HJ2⟩
       case measure=>simp[intOf];omega
    ·obtain rfl:j=16:=by omega
     have HBN:Hid (badN f k=false):=ybqs HJ.out
     obtain⟨T,HT⟩:∃ T,Hid (T=encT f k):=⟨_,rfl⟩
     have HTS:Hid (T.size=48):=by rw[HT.out];exact qgs _ _
     have HTP:Hid (∀ j,j<T.size->A[k*48+j]? = T[j]?):=by rw[HT.out,HA.out];exact qsk f k hlt
     have HEQ:Hid (∀ W:World,(Op.equalIn 10000 78 (.agg T) (.agg ZT)).run Tryz.prog W=.ok (ybtu f k) W):=fun W=>by rw[HT.out,HZT.out];exact qzz f qiq k 0 W
     go_wp2_with (refine wpList_load_row rfl 80 (.tmp 1) rfl w.heap.size rfl 80 A (0,0) _ HF.out forT rfl (by rw[HAS.out];exact forI) ?_)
     refine (HTH.out k _ hlt).mono ?_
     cases hth:qbd f k with
     | true=>
      rintro e w2 ⟨rfl,hb2⟩
      have HF2:=Lib.hid (qaa hb2 HF.out)
      have hB2:=Below.step HB hb2
      have HK2:Hid (∀ j,j<k+1->ybhl f j):=fun j h2=>by
       by_cases e:j=k
       ·rw[e];exact⟨HBN.out,by unfold badT;rw[hth];rfl⟩
       ·exact HK.out j (by omega)
      clear hth hb2
      go_wp2
      go_roundw
      case rel=>exact⟨k+1,by omega,by go_num,HK2,HF2,hB2⟩
      case measure=>simp[intOf];omega
     | false=>
      rintro e w2 ⟨rfl,hb2⟩
      have HF2:=Lib.hid (qaa hb2 HF.out)
      have hB2:=Below.step HB hb2
      have hz:=HZ.out
      have heq:=HEQ.out
      cases hnt:ybtu f k with
      | true=>
       rw[hnt]at heq
       have HK2:Hid (∀ j,j<k+1->ybhl f j):=fun j h2=>by
        by_cases e:j=k
        ·rw[e];exact⟨HBN.out,by unfold badT;rw[hth,hnt];rfl⟩
        ·exact HK.out j (by omega)
       clear hth hb2 hnt
       go_wp2_with (refine qar (by kernel_rfl) 78 (.tmp 29) rfl w.heap.size (k*48) rfl 80 A T (0,0) _ HF2.out HTP.out Tryz.underlying78 rfl (by rw[HTS.out];exact ybjp) ?_)
       go_roundw
       case rel=>exact⟨k+1,by omega,by go_num,HK2,HF2,hB2⟩
       case measure=>simp[intOf];omega
      | false=>
       rw[hnt]at heq
       have HE:Hid (c=3):=by rw[Hc.out];exact ybdh hlt HK.out HBN.out (by unfold badT;rw[hth,hnt];rfl)
       clear hth hb2 hnt
       go_wp2_with (refine qar (by kernel_rfl) 78 (.tmp 29) rfl w.heap.size (k*48) rfl 80 A T (0,0) _ HF2.out HTP.out Tryz.underlying78 rfl (by rw[HTS.out];exact ybjp) ?_)
       go_ret
       rw[HE.out]
       exact⟨rfl,hB2⟩
  ·obtain rfl:k=4:=by omega
   have HE:Hid (c=0):=by rw[Hc.out];exact ybdg HK.out
   go_wp2
   go_ret
   rw[HE.out]
   exact⟨rfl,HB⟩
theorem qux (f:Fo) (w:World):
  Calls Tryz.prog 114 #[.agg (encF f)] w fun e w'=>e=.returned (.int .i64 (qbn f))/\Below w.heap.size w w':=ybov f _ _ rfl rfl w
def Ln (f:Fo):List Int:=(List.range 64).map fun m=>f.nd (m / 16) (m % 16)
def Ls (f:Fo):List Int:=(List.range 128).map fun m=>(qbq (f.hs (m / 32)) (m % 32):Int)
def qbs (f:Fo):List Int:=Ln f++Ls f
theorem qxn (f:Fo):(Ln f).length=64:=by simp[Ln]
theorem ybkf (f:Fo):(Ls f).length=128:=by simp[Ls]
theorem qgy (f:Fo):(qbs f).length=192:=by simp[qbs,qxn,ybkf]
theorem ybvu (f:Fo) (k i:Nat) (hk:k<4) (hi:i<16):(Ln f)[k*16+i]? = some (f.nd k i):=by
 unfold Ln
 rw[List.getElem?_map,List.getElem?_range (by omega)]
 simp only[Option.map_some]
 rw[show (k*16+i) / 16=k by omega,show (k*16+i) % 16=i by omega]
theorem ybvv (f:Fo) (k i:Nat) (hk:k<4) (hi:i<32):(Ls f)[k*32+i]? = some (qbq (f.hs k) i:Int):=by
 unfold Ls
 rw[List.getElem?_map,List.getElem?_range (by omega)]
 simp only[Option.map_some]
 rw[show (k*32+i) / 32=k by omega,show (k*32+i) % 32=i by omega]
theorem ybge {α:Type} (l:List α) (n:Nat) (x:α) (h:l[n]? = some x):l.take (n+1)=l.take n++[x]:=by
 obtain⟨hn,rfl⟩:=List.getElem?_eq_some_iff.1 h
 rw[List.take_append_getElem hn]
def setL (f:Fo) (k:Nat):List Int:=(List.range 32).map fun i=>(qbq (f.hs k) i:Int)
theorem ybwr (f:Fo) (k:Nat) (hk:k<4):(Ls f).take ((k+1)*32)=(Ls f).take (k*32)++setL f k:=by
 apply List.ext_getElem?
 intro i
 have hl:((Ls f).take (k*32)).length=k*32:=by rw[List.length_take,ybkf];omega
 by_cases h1:i<k*32
 ·rw[List.getElem?_append_left (by omega),List.getElem?_take,List.getElem?_take,if_pos h1,if_pos (by omega)]
 ·rw[List.getElem?_append_right (by omega),hl,List.getElem?_take]
  by_cases h2:i<(k+1)*32
  ·rw[if_pos h2]
   obtain⟨j,rfl⟩:∃ j,i=k*32+j:=⟨i - k*32,by omega⟩
   rw[ybvv f k j hk (by omega),show k*32+j - k*32=j by omega]
   unfold setL
   rw[List.getElem?_map,List.getElem?_range (by omega)]
   rfl
  ·rw[if_neg h2,List.getElem?_eq_none (by simp[setL];omega)]
theorem ybgc (f:Fo) (k:Nat):(setL f k).length=32:=by simp[setL]
theorem ybdj {f:Fo} (h:qbn f=0) (k i:Nat) (hk:k<4) (hi:i<16):0<=f.nd k i/\f.nd k i<=255:=by
 have key:badN f k=false:=by
  cases hb:badN f k with
  | false=>rfl
  | true=>
   exfalso
   unfold qbn at h
   by_cases h0:badN f 0=true
   ·rw[if_pos h0]at h;cases h
   rw[if_neg h0]at h
   by_cases t0:badT f 0=true
   ·rw[if_pos t0]at h;cases h
   rw[if_neg t0]at h
   by_cases h1:badN f 1=true
   ·rw[if_pos h1]at h;cases h
   rw[if_neg h1]at h
   by_cases t1:badT f 1=true
   ·rw[if_pos t1]at h;cases h
   rw[if_neg t1]at h
   by_cases h2:badN f 2=true
   ·rw[if_pos h2]at h;cases h
   rw[if_neg h2]at h
   by_cases t2:badT f 2=true
   ·rw[if_pos t2]at h;cases h
   rw[if_neg t2]at h
   by_cases h3:badN f 3=true
   ·rw[if_pos h3]at h;cases h
   match k,hk with
   | 0,_=>exact h0 hb
   | 1,_=>exact h1 hb
   | 2,_=>exact h2 hb
   | 3,_=>exact h3 hb
 have:qqx (f.nd k i)=false:=by
  cases hb:qqx (f.nd k i) with
  | false=>rfl
  | true=>rw[ybaz hi hb]at key;cases key
 simp[qqx]at this
 omega
theorem ybve : (Tryz.prog.info? 5).map (fun i=>(i.zero,i.size,i.bytes))=some (some (.int .u8 0),1,1):=by kernel_rfl
theorem ybpv : Tryz.prog.underlying 38=some (.slice 5):=by kernel_rfl
theorem yboe (f:Fo) (A:Array Value) (c:Int) (HA:Hid (A=encF f)) (Hc:Hid (c=qbn f)) (hc0:(c != 0)=true) (w:World):
  Calls Tryz.prog 76 #[.agg A] w fun e w'=>e=.returned (.tuple #[.slice none 0 0,.int .i64 c])/\Below w.heap.size w w':=by
 have HAS:Hid (A.size=192):=by rw[HA.out];exact qak f
 have HRC:Hid (∀ W:World,Calls Tryz.prog 114 #[.agg A] W fun e w'=>e=.returned (.int .i64 c)/\Below W.heap.size W w'):=fun W=>by rw[HA.out,Hc.out];exact qux f W
 go_enter Tryz.func76,Tryz.ntmps76
 go_wp2_with (refine wpList_load_row rfl 80 (.tmp 1) rfl w.heap.size rfl 80 A (0,0) _ (heap_alloc_new w _) forT rfl (by rw[HAS.out];exact forI) ?_)
 refine (HRC.out _).mono ?_
 rintro e w1 ⟨rfl,hb1⟩
 have hB1:Below w.heap.size w w1:=Below.step ((Below.refl _ _).alloc (Nat.le_refl _) _) hb1
 clear hb1
 go_wp2
 go_ret2
 exact⟨rfl,hB1⟩
def qlw (f:Fo) (w:World) (e:Ending) (w':World):Prop:=
 ∃ v,e=.returned (.tuple #[v,.int .i64 0])/\w'.ownsRow (w.heap.size+1) 5 1 v 192 (u8s (qbs f))/\Below w.heap.size w w'
theorem ybof (f:Fo) (A:Array Value) (HA:Hid (A=encF f)) (hr:qbn f=0) (w:World):
  Calls Tryz.prog 76 #[.agg A] w (qlw f w):=by
 have HAS:Hid (A.size=192):=by rw[HA.out];exact qak f
 have HRN:=Lib.hid (fun k i hk hi=>ybdj hr k i hk hi)
 have HRC:Hid (∀ W:World,Calls Tryz.prog 114 #[.agg A] W fun e w'=>e=.returned (.int .i64 0)/\Below W.heap.size W w'):=fun W=>by rw[HA.out,<-hr];exact qux f W
 obtain⟨i0,hi,hz0,hz1,hz2⟩:=info_parts ybve
 have HI:=Lib.hid hi
 have HZ0:=Lib.hid hz0
 have HZ1:=Lib.hid hz1
 have HZ2:=Lib.hid hz2
 clear hi hz0 hz1 hz2 hr
 go_enter Tryz.func76,Tryz.ntmps76
 go_wp2_with (refine wpList_load_row rfl 80 (.tmp 1) rfl w.heap.size rfl 80 A (0,0) _ (heap_alloc_new w _) forT rfl (by rw[HAS.out];exact forI) ?_)
 refine (HRC.out _).mono ?_
 rintro e w1 ⟨rfl,hb1⟩
 have hB1:Below w.heap.size w w1:=Below.step ((Below.refl _ _).alloc (Nat.le_refl _) _) hb1
 have HF1:Hid (w1.heap[w.heap.size]? = some (.cells A 80 (0,0))):=qaa hb1 (heap_alloc_new w _)
 clear hb1
 go_wp2
 go_loopw [5,15] (fun v i wr=>∃ k:Nat,k<=4/\i=.int .i64 k/\Hid (wr.ownsRow (w.heap.size+1) 5 1 v (k*16) (u8s ((Ln f).take (k*16))))/\Hid (wr.heap[w.heap.size]? = some (.cells A 80 (0,0)))/\Below w.heap.size w wr) (fun _ i _=>4 - (intOf i).toNat)
 case atStart=>exact⟨0,by omega,rfl,World.ownsRow_nil _ _ _ _,HF1,hB1⟩
 case round=>
  obtain⟨k,hk,rfl,HO,HF,HB⟩:=hrel
  by_cases hlt:k<4
  ·have hlt2:(k:Int)<4:=by omega
   have hk0:(0:Int)<=(k:Int):=by omega
   obtain⟨NN,HNN⟩:∃ N,Hid (N=encN f k):=⟨_,rfl⟩
   have HNS:Hid (NN.size=16):=by rw[HNN.out];exact qmg _ _
   have HNP:Hid (∀ j,j<NN.size->A[k*48+j]? = NN[j]?):=by rw[HNN.out,HA.out];exact qot f k hlt
   obtain⟨wo,hwo⟩:∃ wo:World,wo=wr:=⟨_,rfl⟩
   subst hwo
   obtain⟨vo,hvo⟩:∃ vo:Value,vo=u5:=⟨_,rfl⟩
   subst hvo
   go_wp2_with (refine qar (by kernel_rfl) 74 (.tmp 20) rfl w.heap.size (k*48) rfl 80 A NN (0,0) _ HF.out HNP.out qjw rfl (by rw[HNS.out];exact qze) ?_)
   go_loopw [5,22] (fun v i wr=>∃ j:Nat,j<=16/\i=.int .i64 j/\Hid (wr.ownsRow (w.heap.size+1) 5 1 v (k*16+j) (u8s ((Ln f).take (k*16+j))))/\Hid (wr.heap[w.heap.size]? = some (.cells A 80 (0,0)))/\Below w.heap.size w wr) (fun _ i _=>16 - (intOf i).toNat)
   case atStart=>exact⟨0,by omega,rfl,HO,HF,HB⟩
   case round=>
    obtain⟨j,hj,rfl,HO',HF',HB'⟩:=hrel
    by_cases hjl:j<16
    ·have hjl2:(j:Int)<16:=by omega
     obtain⟨x,Hx⟩:∃ x,Hid (x=f.nd k j):=⟨_,rfl⟩
     have hx:=HRN.out k j hlt hjl
     rw[<-Hx.out]at hx
     obtain⟨hx0,hx1⟩:=hx
     have hidx:∀ W:World,(Instr.index 74 (.agg NN) (.int .i64 (j:Int))).run Tryz.prog W=.ok (.int .i64 x) W:=fun W=>
      qey _ _ 16 .i64 NN .i64 (j:Int) qjw intT intS (by omega) (by omega) _ (by
       rw[Int.toNat_natCast,HNN.out,qpz f k j hjl,Hx.out]
       unfold qdb
       rw[if_pos hjl]) W
     have hsz:w.heap.size<wr.heap.size:=qac HF'.out
     obtain⟨q,cq,hv,_⟩:=qat HO'.out
     subst hv
     have hlt':=(HO'.out.alloc (.cells #[.int .u8 x] 5)).lt
     go_wp2_with (at_builtin;refine wpList_append_own _ rfl _ _ 38 rfl (w.heap.size+1) 5 i0 (.int .u8 0) 1 1 ybpv HI.out HZ0.out HZ1.out HZ2.out rfl (by decide) _ _ _ rfl (HO'.out.alloc _) ⟨wr.heap.size,0,none⟩ 1 1 [.int .u8 x] rfl rfl (fun j u hu=>qig _ #[.int .u8 x] _ j u hu) (fun u hu=>by simp at hu;subst hu;rfl) (by unfold maxLen;omega) (by omega) (by simp;omega) ?_;intro v' w4 hown hgrow _)
     have HO4:Hid (w4.ownsRow (w.heap.size+1) 5 1 v' (k*16+(j+1)) (u8s ((Ln f).take (k*16+(j+1))))):=by
      rw[<-Nat.add_assoc,ybge (Ln f) (k*16+j) x (by rw[Hx.out];exact ybvu f k j hlt hjl),qbj]
      exact hown
     have HF4:Hid (w4.heap[w.heap.size]? = some (.cells A 80 (0,0))):=(hgrow.block w.heap.size (by simp;omega) (fun e=>by have:=(hlt' w.heap.size e.symm).1;omega)).trans (qad HF'.out _)
     have HB4:Below w.heap.size w w4:=Below.grown (HB'.alloc HB'.size _) hgrow (by simp;omega) (fun r hr=>by have:=(hlt' r hr).1;omega)
     clear hown hgrow hlt'
     go_wp2
     go_roundw
     case rel=>exact⟨j+1,by omega,by go_num,HO4,HF4,HB4⟩
     case measure=>simp[intOf];omega
    ·obtain rfl:j=16:=by omega
     go_wp2
     go_roundw
     case rel=>exact⟨k+1,by omega,by go_num,by rw[show (k+1)*16=k*16+16 by omega];exact HO',HF',HB'⟩
     case measure=>simp[intOf];omega
  ·have HK4:Hid (k=4):=by show _=_;omega
   have hk42:¬ (k:Int)<4:=by omega
   obtain⟨k0,hk0e⟩:∃ k0:Nat,k0=k:=⟨_,rfl⟩
   subst hk0e
   have HO2:Hid (wr.ownsRow (w.heap.size+1) 5 1 u5 (64+0*32) (u8s (Ln f++(Ls f).take (0*32)))):=by
    have:=HO.out
    rw[HK4.out]at this
    rw[List.take_of_length_le (by rw[qxn];omega)]at this
    rw[Nat.zero_mul,List.take_zero,List.append_nil]
    exact this
   clear HO
   obtain⟨vo,hvo⟩:∃ vo:Value,vo=u5:=⟨_,rfl⟩
   subst hvo
   obtain⟨wo,hwo⟩:∃ wo:World,wo=wr:=⟨_,rfl⟩
   subst hwo
   go_wp2
   go_loopw [5,32] (fun v i wr=>∃ k:Nat,k<=4/\i=.int .i64 k/\Hid (wr.ownsRow (w.heap.size+1) 5 1 v (64+k*32) (u8s (Ln f++(Ls f).take (k*32))))/\Hid (wr.heap[w.heap.size]? = some (.cells A 80 (0,0)))/\Below w.heap.size w wr) (fun _ i _=>4 - (intOf i).toNat)
   case atStart=>exact⟨0,by omega,rfl,HO2,HF,HB⟩
   case round=>
    obtain⟨k,hk,rfl,HO',HF',HB'⟩:=hrel
    by_cases hlt:k<4
    ·have hlt2:(k:Int)<4:=by omega
     have hk0:(0:Int)<=(k:Int):=by omega
     have hsz:w.heap.size<wr.heap.size:=qac HF'.out
     have HSC:Hid (∀ (j:Nat) (u:Value),(u8s (setL f k))[j]? = some u->wr.cell? ((⟨w.heap.size,k*48+16,none⟩:Addr).add j)=some u):=fun j u hu=>by
      have hj:=(List.getElem?_eq_some_iff.1 hu).1
      rw[qal,ybgc]at hj
      have hadd:(⟨w.heap.size,k*48+16,none⟩:Addr).add j=⟨w.heap.size,k*48+16+j,none⟩:=by unfold Addr.add;split <;> simp_all
      rw[hadd,cell_of_row _ _ _ _ _ _ HF'.out,HA.out,qnh f k hlt j (by rw[qau];exact hj),qdh _ _ hj,<-hu]
      unfold u8s setL
      rw[List.getElem?_map,List.getElem?_map,List.getElem?_range hj]
      rfl
     obtain⟨q,cq,hv,_⟩:=qat HO'.out
     subst hv
     have hlt':=HO'.out.lt
     go_wp2_with (at_builtin;refine wpList_append_own _ rfl _ _ 38 rfl (w.heap.size+1) 5 i0 (.int .u8 0) 1 1 ybpv HI.out HZ0.out HZ1.out HZ2.out rfl (by decide) _ _ _ rfl HO'.out ⟨w.heap.size,k*48+16,none⟩ 32 32 (u8s (setL f k)) rfl (by rw[qal,ybgc]) HSC.out (qga _) (by unfold maxLen;omega) (by omega) (by omega) ?_;intro v' w4 hown hgrow _)
     have HO4:Hid (w4.ownsRow (w.heap.size+1) 5 1 v' (64+(k+1)*32) (u8s (Ln f++(Ls f).take ((k+1)*32)))):=by
      rw[ybwr f k hlt,<-List.append_assoc,qbj,show 64+(k+1)*32=64+k*32+32 by omega]
      exact hown
     have HF4:Hid (w4.heap[w.heap.size]? = some (.cells A 80 (0,0))):=(hgrow.block w.heap.size (by omega) (fun e=>by have:=(hlt' w.heap.size e.symm).1;omega)).trans HF'.out
     have HB4:Below w.heap.size w w4:=Below.grown HB' hgrow (by omega) (fun r hr=>by have:=(hlt' r hr).1;omega)
     clear hown hgrow hlt'
     go_wp2
     go_roundw
     case rel=>exact⟨k+1,by omega,by go_num,HO4,HF4,HB4⟩
     case measure=>simp[intOf];omega
    ·obtain rfl:k=4:=by omega
     have HFIN:Hid (wr.ownsRow (w.heap.size+1) 5 1 u5 192 (u8s (qbs f))):=by
      have:=HO'.out
      rw[List.take_of_length_le (by rw[ybkf];omega)]at this
      exact this
     clear HO'
     go_wp2
     go_ret2
     exact⟨_,rfl,HFIN.out,HB'⟩
theorem qos (f:Fo) (hr:qbn f=0) (w:World):Calls Tryz.prog 76 #[.agg (encF f)] w (qlw f w):=ybof f _ rfl hr w
def f1 : Fo:=⟨fun k j=>if k=0/\j=0 then 40 else 0,fun _=>emp⟩
def f2 : Fo:=⟨fun k j=>if k=0/\j=0 then 40 else 0,fun k=>if k=0 then ins (ins emp 40) 50 else emp⟩
section
variable {P : Program}
end
theorem rowT : Tryz.prog.underlying 84=some (.slice 145):=by kernel_rfl
theorem ybzm : (Tryz.prog.info? 145).map (fun i=>(i.zero,i.size,i.bytes))=some (some (.agg #[.int .i64 0,.int .i64 0]),2,16):=by kernel_rfl
end Go.Proofs.YtpoglnpjadmbpaaGreatDoor
