/- Part of the proofs of FsLinks: the texts CkLoad, CkPut, CkOwn, CkWays. -/
import Derived.Test.YtpoglnpjadmbpaaGreatDoorKA5
import Derived.Test.YtpoglnpjadmbpaaGreatDoorKA25
set_option maxHeartbeats 16000000
set_option maxRecDepth 100000
namespace Go.Proofs.YtpoglnpjadmbpaaGreatDoor
open Go.RowKit
def qfc (N:Nat->List Int):List Int:=N 1++(N 2++N 3)
def forN (N:Nat->List Int) (n:Nat):List Int:=((List.range n).map fun i=>N (1+i)).flatten
theorem yblt (N:Nat->List Int) (n:Nat):forN N (n+1)=forN N n++N (1+n):=by unfold forN;rw[List.range_succ,List.map_append,List.flatten_append];simp
theorem ybes (N:Nat->List Int):forN N 3=qfc N:=by unfold forN qfc;simp[List.range_succ]
structure qlv (N : Nat -> List Int) (f : Fo) (k : Nat) : Prop where
 eq:encF (foB (qfc N))=encF f
 right:qbn (foB (qfc N))=0
 root:qbd f 0=true
 nds:∀ t i,t<4->i<16->qbd f t=true->37<=f.nd t i/\f.nd t i<(k:Int)
theorem ybth {w:World} {r:Rdr} {N:Nat->List Int} {k:Nat} (h:RdAt w r N k) (hk:16<=k) (f:Fo) (hok:qlv N f k) (A:Array Value) (HA:Hid (A=encF f)):
  Calls Tryz.prog 36 #[.iface r.T r.u] w (fun e w'=>e=.returned (.tuple #[.agg A,.int .i64 0])/\Below w.heap.size w w'):=by
 have q1:=h.n1
 have q2:=h.m1
 have q3:=h.c1
 have q4:=h.n2
 have q5:=h.m2
 have q6:=h.c2
 have HR:=Lib.hid h
 have HOK:=Lib.hid hok
 clear h hok
 have HAS:Hid (A.size=192):=by rw[HA.out];exact qak f
 have HA1:Hid (A.all (·.oneCell')=true):=by rw[HA.out];exact qis f
 have HTH:Hid (∀ (t:Nat) (W:World),t<4->Calls Tryz.prog 38 #[.agg A,.int .i64 (t:Int)] W fun e w'=>e=.returned (.bool (qbd f t))/\Below W.heap.size W w'):=fun t W ht=>by rw[HA.out];exact qnt f t W ht
 obtain⟨Z0,HZ0⟩:∃ Z,Hid (Z=encF qiq):=⟨_,rfl⟩
 have HZ:Hid (∀ w,(zeroValue 80).run Tryz.prog w=.ok (.agg Z0) w):=by rw[HZ0.out];exact forZ
 have HZS:Hid (Z0.size=192):=by rw[HZ0.out];exact qak _
 have HUP:Hid (∀ (v:Value) (W:World),qaf W v (qfc N)->ybwu v (qfc N).length->Calls Tryz.prog 83 #[v] W fun e w'=>e=.returned (.tuple #[.agg A,.int .i64 0])/\Below W.heap.size W w'):=fun v W hb hrm=>by
  have hl:(qfc N).length=192:=by unfold qfc;rw[List.length_append,List.length_append,HR.out.len 1 (by omega),HR.out.len 2 (by omega),HR.out.len 3 (by omega)]
  have hu:U8s (qfc N):=fun x hx=>by
   unfold qfc at hx
   rcases List.mem_append.1 hx with hx | hx
   ·exact HR.out.byte 1 (by omega) x hx
   ·rcases List.mem_append.1 hx with hx | hx
    ·exact HR.out.byte 2 (by omega) x hx
    ·exact HR.out.byte 3 (by omega) x hx
  have hU:unpF (qfc N)=(foB (qfc N),0):=by unfold unpF;rw[if_pos ⟨hl,HOK.out.right⟩]
  have:=ybvk v (qfc N) W hb hu hrm (by omega)
  rw[hU]at this
  rw[HA.out,<-HOK.out.eq]
  exact this
 obtain⟨i0,hi0,hz0,hz1,hz2⟩:=info_parts qtd
 have HI0:=Lib.hid hi0
 have HIZ:=Lib.hid hz0
 have HI1:=Lib.hid hz1
 have HI2:=Lib.hid hz2
 clear hi0 hz0 hz1 hz2
 go_enter Tryz.func36,Tryz.ntmps36
 go_wp2_with (refine qbh rfl 80 rfl Z0 HZ.out ?_)
 have HB0:Hid (Below w.heap.size w (w.alloc (.cells Z0 80))):=(Below.refl _ _).alloc (Nat.le_refl _) _
 have HS0:Hid ((w.alloc (.cells Z0 80)).heap.size=w.heap.size+1):=by show _=_;simp
 have HH0:Hid ((w.alloc (.cells Z0 80)).heap[w.heap.size]? = some (.cells Z0 80 (0,0))):=heap_alloc_new _ _
 generalize w.alloc (.cells Z0 80)=w1 at *
 go_loopw [4,13] (fun o i wr=>∃ (j:Nat),j<=3/\i=.int .i64 j/\Hid (wr.ownsRow (w.heap.size+1) 5 1 o (64*j) (u8s (forN N j)))/\Hid (Below w1.heap.size w1 wr)) (fun _ i _=>3 - (intOf i).toNat)
 case atStart=>exact⟨0,Nat.zero_le _,rfl,World.ownsRow_nil _ _ _ _,Below.refl _ _⟩
 case round=>
  obtain⟨j,hj,rfl,HO,HB⟩:=hrel
  by_cases hlt:j<3
  ·have hlt2:(j:Int)<3:=by omega
   have i1:IntKind.i64.wrap (1+(j:Int))=1+(j:Int):=IntWalk.i64_in _ (by omega)
   have HRD:=Lib.hid (HR.out.read wr (Below.step HB0.out HB.out) (1+j) (by omega))
   have HNL:=Lib.hid (HR.out.len (1+j) (by omega))
   have HSN:=Lib.hid (yblt N j)
   rw[show ((1+j:Nat):Int)=1+(j:Int) by omega]at HRD
   obtain⟨D,HD⟩:∃ D,Hid (N (1+j)=D):=⟨_,rfl⟩
   rw[HD.out]at HRD HNL HSN
   go_wp2_with fail
   refine HRD.out.mono ?_
   rintro e w3 ⟨v3,rfl,hv3⟩
   obtain⟨g3,cap3,cur3,rfl,hcap3,hh3,ht3,hb3⟩:=hv3
   rw[HNL.out]at hcap3 ht3 ⊢
   have HCB:=Lib.hid (qet.cell (_B:=w.heap.size+1) (_cap:=cap3) HNL.out hh3 ht3)
   have HB3:Hid (Below w1.heap.size w1 w3):=Below.step HB.out hb3
   have HO3:=Lib.hid (qap HO.out hb3)
   have HUL:Hid ((u8s D).length=64):=by show _=_;rw[qal,HNL.out]
   have HU1:=Lib.hid (qga D)
   have HSX:Hid (w.heap.size+1<=w3.heap.size):=Nat.le_trans (Nat.le_of_eq HS0.out.symm) HB3.out.size
   clear hh3 ht3 hb3 HO HRD hcap3
   go_wp2_with (at_builtin;refine wpList_append_own _ rfl _ _ 38 rfl (w.heap.size+1) 5 i0 (.int .u8 0) 1 1 u8sT HI0.out HIZ.out HI1.out HI2.out rfl (by decide) _ _ _ rfl HO3.out ⟨g3,0,none⟩ 64 cap3 (u8s D) rfl (by rw[HUL.out]) HCB.out HU1.out (by unfold maxLen;omega) (by omega) HSX.out ?_;intro v5 w5 hown hgrow hnil)
   have HO5:Hid (w5.ownsRow (w.heap.size+1) 5 1 v5 (64*(j+1)) (u8s (forN N (j+1)))):=by
    show _
    rw[HSN.out,qbj,show 64*(j+1)=64*j+64 by omega]
    exact hown
   have HB5:Hid (Below w1.heap.size w1 w5):=Below.grown HB3.out hgrow HB3.out.size (fun q hq=>by rw[HS0.out];exact (HO3.out.lt q hq).1)
   clear hown hgrow hnil
   go_wp2
   go_roundw
   case rel=>exact⟨j+1,by omega,by go_num,HO5,HB5⟩
   case measure=>simp[intOf];omega
  ·obtain rfl:j=3:=by omega
   have hlt2:¬ ((3:Nat):Int)<3:=by omega
   have hl3:(qfc N).length=192:=by have:=HO.out.1;rw[qal,ybes]at this;exact this
   have HBA:Hid (qaf wr u4 (qfc N)):=by
    have:=qai.of_owns HO.out
    rw[ybes,show 64*3=(qfc N).length from hl3.symm]at this
    exact this
   have HRM:Hid (ybwu u4 (qfc N).length):=fun p l c hu=>by
    rcases HO.out.2 with⟨_,h0⟩ | ⟨g,cap,cur,hv,_,_,hc,_⟩
    ·omega
    ·rw[hv]at hu
     injection hu with _ _ h3
     omega
   clear hl3
   go_wp2_with fail
   refine (HUP.out u4 wr HBA.out HRM.out).mono ?_
   rintro e w2 ⟨rfl,hb2⟩
   have HB2:Hid (Below w1.heap.size w1 w2):=Below.step HB.out hb2
   have HH2:Hid (w2.heap[w.heap.size]? = some (.cells Z0 80 (0,0))):=qaa HB2.out HH0.out
   clear hb2
   have HT1:=HOK.out.root
   have HTH0:=Lib.hid (HTH.out 0)
   rw[HT1]at HTH0
   have hne:w.heap.size ≠ w2.heap.size:=by have:=qac HH2.out;omega
   have HHA:Hid (((w2.alloc (.cells Z0 80)).setRow w2.heap.size A).heap[w2.heap.size]? = some (.cells A 80 (0,0))):=setRow_heap _ _ _ _ _ _ (heap_alloc_new _ _)
   have HHZ:Hid (((w2.alloc (.cells Z0 80)).setRow w2.heap.size A).heap[w.heap.size]? = some (.cells Z0 80 (0,0))):=qeb (qad HH2.out _) _ _ hne
   have HBA2:Hid (Below w1.heap.size w1 ((w2.alloc (.cells Z0 80)).setRow w2.heap.size A)):=Below.setRow (Below.step HB2.out ((Below.refl _ _).alloc (Nat.le_refl _) _)) HB2.out.size _
   clear HT1
   go_wp2_with (first
    | (refine qbh rfl 80 rfl Z0 HZ.out ?_)
    | (refine wpList_store_row rfl 80 (.tmp 8) (.tmp 33) rfl w2.heap.size A rfl rfl 80 Z0 (heap_alloc_new _ _) (by rw[HAS.out];exact forI) (by rw[HZS.out,HAS.out]) HA1.out ?_)
    | (refine qin (by kernel_rfl) 80 (.tmp 8) rfl w2.heap.size rfl 80 A (0,0) _ HHA.out forT rfl (by rw[HAS.out];exact forI) ?_))
   generalize (w2.alloc (.cells Z0 80)).setRow w2.heap.size A=w4 at *
   refine (HTH0.out w4 (by omega)).mono ?_
   rintro e w5 ⟨rfl,hb5⟩
   have HHA5:=Lib.hid (qaa hb5 HHA.out)
   have HHZ5:=Lib.hid (qaa hb5 HHZ.out)
   have HB5:=Lib.hid (Below.step HBA2.out hb5)
   obtain⟨ga,Hga⟩:∃ x,Hid (w2.heap.size=x):=⟨_,rfl⟩
   rw[Hga.out]at HHA5 hne ⊢
   clear hb5 HTH0 HHA HHZ HBA2
   go_wp2
   go_loopw [43] (fun i wr=>∃ t:Nat,t<=4/\i=.int .i64 t/\Hid (wr.heap[w.heap.size]? = some (.cells Z0 80 (0,0)))/\Hid (wr.heap[ga]? = some (.cells A 80 (0,0)))/\Hid (Below w1.heap.size w1 wr)) (fun i _=>4 - (intOf i).toNat)
   case atStart=>exact⟨0,by omega,rfl,HHZ5,HHA5,HB5⟩
   case round=>
    obtain⟨t,ht,rfl,HZr,HAr,HBr⟩:=hrel
    by_cases htl:t<4
    ·have htl2:(t:Int)<4:=by omega
     have ht0:(0:Int)<=(t:Int):=by omega
     obtain⟨NN,HNN⟩:∃ N,Hid (N=encN f t):=⟨_,rfl⟩
     have HNS:Hid (NN.size=16):=by rw[HNN.out];exact qmg _ _
     have HNP:Hid (∀ j,j<NN.size->A[t*48+j]? = NN[j]?):=by rw[HNN.out,HA.out];exact qot f t htl
     go_wp2_with (refine qar (by kernel_rfl) 74 (.tmp 48) rfl ga (t*48) rfl 80 A NN (0,0) _ HAr.out HNP.out qjw rfl (by rw[HNS.out];exact qze) ?_)
     go_loopw [50] (fun i wr=>∃ a:Nat,a<=16/\i=.int .i64 a/\Hid (wr.heap[w.heap.size]? = some (.cells Z0 80 (0,0)))/\Hid (wr.heap[ga]? = some (.cells A 80 (0,0)))/\Hid (Below w1.heap.size w1 wr)) (fun i _=>16 - (intOf i).toNat)
     case atStart=>exact⟨0,by omega,rfl,HZr,HAr,HBr⟩
     case round=>
      clear HZr HAr HBr
      obtain⟨a,ha,rfl,HZr,HAr,HBr⟩:=hrel
      by_cases hal:a<16
      ·have hal2:(a:Int)<16:=by omega
       obtain⟨y,Hy⟩:∃ y,Hid (f.nd t a=y):=⟨_,rfl⟩
       have hidx:∀ W:World,(Instr.index 74 (.agg NN) (.int .i64 (a:Int))).run Tryz.prog W=.ok (.int .i64 y) W:=fun W=>
        qey _ _ 16 .i64 NN .i64 (a:Int) qjw intT intS (by omega) (by omega) _ (by
         rw[Int.toNat_natCast,HNN.out,qpz f t a hal,Hy.out.symm]
         unfold qdb
         rw[if_pos hal]) W
       have HTt:=Lib.hid (fun W=>HTH.out t W htl)
       cases hth:qbd f t with
       | true=>
        rw[hth]at HTt
        have hyy:=HOK.out.nds t a htl hal hth
        rw[Hy.out]at hyy
        have b1:decide (y<37)=false:=decide_eq_false (by omega)
        have b2:decide ((k:Int)<=y)=false:=decide_eq_false (by omega)
        have b3:decide (y >= (k:Int))=false:=decide_eq_false (by omega)
        clear hth
        go_wp2_with (refine wpList_load_row rfl 80 (.tmp 8) rfl ga rfl 80 A (0,0) _ HAr.out forT rfl (by rw[HAS.out];exact forI) ?_)
        refine (HTt.out wr).mono ?_
        rintro e w6 ⟨rfl,hb6⟩
        have HZ6:=Lib.hid (qaa hb6 HZr.out)
        have HA6:=Lib.hid (qaa hb6 HAr.out)
        have HB6:=Lib.hid (Below.step HBr.out hb6)
        have HSZ:=Lib.hid (HR.out.size w6 (Below.step HB0.out HB6.out))
        clear hb6 HTt HZr HAr HBr hidx
        go_wp2_with fail
        refine HSZ.out.mono ?_
        rintro e w7 ⟨rfl,hb7⟩
        have HZ7:=Lib.hid (qaa hb7 HZ6.out)
        have HA7:=Lib.hid (qaa hb7 HA6.out)
        have HB7:=Lib.hid (Below.step HB6.out hb7)
        clear hb7 HZ6 HA6 HB6 HSZ
        go_wp2
        go_roundw
        case rel=>exact⟨a+1,by omega,by go_num,HZ7,HA7,HB7⟩
        case measure=>simp[intOf];omega
       | false=>
        rw[hth]at HTt
        clear hth
        go_wp2_with (refine wpList_load_row rfl 80 (.tmp 8) rfl ga rfl 80 A (0,0) _ HAr.out forT rfl (by rw[HAS.out];exact forI) ?_)
        refine (HTt.out wr).mono ?_
        rintro e w6 ⟨rfl,hb6⟩
        have HZ6:=Lib.hid (qaa hb6 HZr.out)
        have HA6:=Lib.hid (qaa hb6 HAr.out)
        have HB6:=Lib.hid (Below.step HBr.out hb6)
        clear hb6 HTt HZr HAr HBr hidx
        go_wp2
        go_roundw
        case rel=>exact⟨a+1,by omega,by go_num,HZ6,HA6,HB6⟩
        case measure=>simp[intOf];omega
      ·obtain rfl:a=16:=by omega
       have hal2:¬ ((16:Nat):Int)<16:=by omega
       go_wp2
       go_roundw
       case rel=>exact⟨t+1,by omega,by go_num,HZr,HAr,HBr⟩
       case measure=>simp[intOf];omega
    ·obtain rfl:t=4:=by omega
     have htl2:¬ ((4:Nat):Int)<4:=by omega
     go_wp2_with (first
      | (refine wpList_load_row rfl 80 (.tmp 8) rfl ga rfl 80 A (0,0) _ HAr.out forT rfl (by rw[HAS.out];exact forI) ?_)
      | (refine wpList_store_row rfl 80 (.tmp 2) (.tmp 69) rfl w.heap.size A rfl rfl 80 Z0 HZr.out (by rw[HAS.out];exact forI) (by rw[HZS.out,HAS.out]) HA1.out ?_))
     refine bodyPost_ret (qiz rfl _ _ w.heap.size 80 A (0,0) _ (.int .i64 0) rfl rfl (setRow_heap _ _ _ _ _ _ HZr.out) forT rfl (by rw[HAS.out];exact forI)) rfl ⟨rfl,?_⟩
     exact Below.setRow (Below.step HB0.out HBr.out) (Nat.le_refl _) _
theorem ybfi {w:World} {r:Rdr} {N:Nat->List Int} {k:Nat} (h:RdAt w r N k) (hk:16<=k) (f:Fo) (hok:qlv N f k):
  Calls Tryz.prog 36 #[.iface r.T r.u] w (fun e w'=>e=.returned (.tuple #[.agg (encF f),.int .i64 0])/\Below w.heap.size w w'):=ybth h hk f hok _ rfl
theorem yboo (w:World) (n k:Nat) (hn:37<=n) (hk:n<k) (hk2:k<=256) (b4 b9 b7 b10:Nat) (S S2:Array Value) (s:Nat->Bool) (HS:Hid (S=enc s)) (HS2:Hid (S2=enc (ins s n))) (hs:s n=false)
  (c4:w.cell? ⟨b4,0,none⟩=some (.int .i64 (k:Int))) (H9:Hid (w.heap[b9]? = some (.cells S 76 (0,0)))):
  Calls Tryz.prog 124 #[.int .i64 (n:Int),.pointer (some ⟨b4,0,none⟩),.pointer (some ⟨b9,0,none⟩),.pointer (some ⟨b7,0,none⟩),.pointer (some ⟨b10,0,none⟩)] w
   (fun e w'=>e=.returned (.tuple #[])/\qab (fun i=>i=b9) w w'/\w'.heap[b9]? = some (.cells S2 76 (0,0))):=by
 have HSS:Hid (S.size=32):=by show _=_;rw[HS.out];exact qau _
 have HSS2:Hid (S2.size=32):=by show _=_;rw[HS2.out];exact qau _
 have HS1:Hid (S2.all (·.oneCell')=true):=by show _=_;rw[HS2.out];exact qit _
 have HHAS:Hid (∀ W:World,Calls Tryz.prog 125 #[.agg S,.int .i64 (n:Int)] W fun e w'=>e=.returned (.bool false)/\Below W.heap.size W w'):=fun W=>by
  have:=ybml s (n:Int) W (by omega) (by omega)
  rw[Int.toNat_natCast,hs]at this
  rw[HS.out]
  exact this
 have HWITH:Hid (∀ W:World,Calls Tryz.prog 75 #[.agg S,.int .i64 (n:Int)] W fun e w'=>e=.returned (.agg S2)/\Below W.heap.size W w'):=fun W=>by
  have:=ybdx s (n:Int) W (by omega) (by omega)
  rw[Int.toNat_natCast]at this
  rw[HS.out,HS2.out]
  exact this
 have b1:decide ((n:Int)<37)=false:=decide_eq_false (by omega)
 have b2:decide ((k:Int)<=(n:Int))=false:=decide_eq_false (by omega)
 have b1':¬ ((n:Int)<37):=by omega
 have b2':¬ ((k:Int)<=(n:Int)):=by omega
 clear hs
 go_enter Tryz.func124,Tryz.ntmps124
 go_wp2_with (refine qin (by kernel_rfl) 76 (.tmp 2) rfl b9 rfl 76 S (0,0) _ H9.out setT rfl (by rw[HSS.out];exact setI) ?_)
 refine (HHAS.out w).mono ?_
 rintro e w1 ⟨rfl,hb1⟩
 have H91:=Lib.hid (qaa hb1 H9.out)
 have HB1:=Lib.hid hb1
 clear hb1 c4
 go_wp2_with (refine wpList_load_row rfl 76 (.tmp 2) rfl b9 rfl 76 S (0,0) _ H91.out setT rfl (by rw[HSS.out];exact setI) ?_)
 refine (HWITH.out w1).mono ?_
 rintro e w2 ⟨rfl,hb2⟩
 have H92:=Lib.hid (qaa hb2 H91.out)
 have HB2:=Lib.hid (Below.step HB1.out hb2)
 clear hb2
 go_wp2_with (refine wpList_store_row rfl 76 (.tmp 2) (.tmp 21) rfl b9 S2 rfl rfl 76 S H92.out (by rw[HSS2.out];exact setI) (by rw[HSS2.out,HSS.out]) HS1.out ?_)
 go_end0
 exact⟨rfl,(qab.of_below HB2.out).step (qab.setRow (F:=fun i=>i=b9) rfl _),setRow_heap _ _ _ _ _ _ H92.out⟩
def qdj (l:List Nat):Nat->Bool:=l.foldl ins emp
theorem qrt (l:List Nat) (n:Nat):qdj (l++[n])=ins (qdj l) n:=by unfold qdj;rw[List.foldl_append];rfl
theorem ybls (l:List Nat):∀ (s:Nat->Bool) (m:Nat),(l.foldl ins s) m=(s m || decide (m ∈ l)):=by
 induction l with
 | nil=>intro s m;simp
 | cons n l ih=>
  intro s m
  rw[List.foldl_cons,ih]
  unfold ins
  by_cases h:m=n <;> simp[h]
theorem ybhy (l:List Nat) (m:Nat):qdj l m=decide (m ∈ l):=by unfold qdj;rw[ybls];simp[emp]
def qem (P:List Int):List Nat:=(nzF P).map Int.toNat
def qjy (nd:Nat->Int) (n:Nat):List Nat:=(List.range n).map fun i=>(nd i).toNat
def qfg (L:List Pn):List Nat:=L.flatMap fun x=>qem x.P
structure ybws (nd : Nat -> Int) (L : List Pn) (hs : Nat -> Bool) (k : Nat) : Prop where
 nodup:(qjy nd 16++qfg L).Nodup
 nds:∀ i,i<16->37<=nd i/\nd i<(k:Int)
 pts:∀ x ∈ L,∀ p ∈ x.P,p=0\/(37<=p/\p<(k:Int))
 has:∀ m,m<256->qdj (qjy nd 16++qfg L) m=hs m
 few:∀ x ∈ L,x.P.length<=8
theorem ybnt {A:List Nat} {x:Nat} {R:List Nat} (h:(A++x :: R).Nodup):qdj A x=false:=by
 rw[ybhy,decide_eq_false_iff_not]
 intro hc
 exact (List.nodup_append.1 h).2.2 x hc x List.mem_cons_self rfl
theorem ybtv (x:Int) (l:List Int):nzF (x :: l)=if x=0 then nzF l else x :: nzF l:=by
 unfold nzF
 rw[List.filter_cons]
 by_cases h:x=0 <;> simp[h]
theorem ybtw (l:List Int) (x:Int):nzF (l++[x])=if x=0 then nzF l else nzF l++[x]:=by
 rw[ybcw,ybtv]
 by_cases h:x=0 <;> simp[h,nzF]
theorem setG : Tryz.prog.eqGuardType Tryz.prog.depth 76=false:=by kernel_rfl
structure qjo (w wr : World) (k : Nat) (A S : Array Value) : Prop where
 c4:wr.heap[w.heap.size]? = some (.cells #[.int .i64 (k:Int)] 3 (0,0))
 c5:wr.heap[w.heap.size+1]? = some (.cells A 78 (0,0))
 c9:wr.heap[w.heap.size+1+1+1]? = some (.cells S 76 (0,0))
 c10:wr.heap[w.heap.size+1+1+1+1]? = some (.cells #[.bool true] 4 (0,0))
 below:Below w.heap.size w wr
theorem qjo.step {w wr w2:World} {k:Nat} {A S:Array Value} (h:qjo w wr k A S) (hb:Below wr.heap.size wr w2):qjo w w2 k A S:=
 ⟨qaa hb h.c4,qaa hb h.c5,qaa hb h.c9,qaa hb h.c10,Below.step h.below hb⟩
theorem qjo.put {w wr w2:World} {k:Nat} {A S S2:Array Value} (h:qjo w wr k A S) (hk:qab (fun i=>i=w.heap.size+1+1+1) wr w2) (h9:w2.heap[w.heap.size+1+1+1]? = some (.cells S2 76 (0,0))):qjo w w2 k A S2:=
 ⟨(hk.block _ (qac h.c4) (by omega)).trans h.c4,(hk.block _ (qac h.c5) (by omega)).trans h.c5,h9,(hk.block _ (qac h.c10) (by omega)).trans h.c10,
  ⟨hk.os.trans h.below.os,hk.tape.trans h.below.tape,hk.output.trans h.below.output,Nat.le_trans h.below.size hk.size,fun i hi=>(hk.block i (Nat.lt_of_lt_of_le hi h.below.size) (by omega)).trans (h.below.block i hi)⟩⟩
theorem ybis (nd:Nat->Int) (j n:Nat) (h:j<=n):(qjy nd n).take j=qjy nd j:=by
 unfold qjy
 rw[<-List.map_take,List.take_range,Nat.min_eq_left h]
theorem qus (nd:Nat->Int) (j:Nat):qjy nd (j+1)=qjy nd j++[(nd j).toNat]:=by unfold qjy;rw[List.range_succ,List.map_append];rfl
theorem ybin {A B:List Nat} {j:Nat} (h:(A++B).Nodup):(A.take j).Nodup:=((List.nodup_append.1 h).1).sublist (List.take_sublist _ _)
theorem ybua {nd:Nat->Int} {B:List Nat} {j:Nat} (h:(qjy nd 16++B).Nodup) (hj:j<16):qdj (qjy nd j) (nd j).toNat=false:=by
 have h1:=ybin (j:=j+1) h
 rw[ybis _ _ _ (by omega),qus]at h1
 exact ybnt (R:=[]) h1
theorem qsl (P:List Int) (a:Nat) (h:a<P.length):qem (P.take (a+1))=qem (P.take a)++(if P[a]=0 then [] else [P[a].toNat]):=by
 unfold qem
 rw[List.take_add_one,List.getElem?_eq_getElem h,Option.toList_some,ybtw]
 split <;> simp
theorem qur (L:List Pn) (i:Nat) (h:i<L.length):qfg (L.take (i+1))=qfg (L.take i)++qem L[i].P:=by
 unfold qfg
 rw[List.take_add_one,List.getElem?_eq_getElem h,Option.toList_some,List.flatMap_append]
 simp
theorem yboc {A:List Nat} {L:List Pn} {i a:Nat} (h:(A++qfg L).Nodup) (hi:i<L.length) (ha:a<L[i].P.length) (h0:L[i].P[a] ≠ 0):qdj (A++qfg (L.take i)++qem (L[i].P.take a)) L[i].P[a].toNat=false:=by
 have e1:qem L[i].P=qem (L[i].P.take (a+1))++qem (L[i].P.drop (a+1)):=by unfold qem;rw[<-List.map_append,<-ybcw,List.take_append_drop]
 have e2:qfg L=qfg (L.take (i+1))++qfg (L.drop (i+1)):=by unfold qfg;rw[<-List.flatMap_append,List.take_append_drop]
 rw[e2,qur L i hi,e1,qsl _ _ ha,if_neg h0]at h
 refine ybnt (R:=qem (L[i].P.drop (a+1))++qfg (L.drop (i+1))) ?_
 simpa[List.append_assoc]using h
theorem ybir (w:World) (nd:Nat->Int) (hs:Nat->Bool) (k bm:Nat) (hk:k<=256) (A:Array Value) (HAS:Hid (A.size=48)) (_HA1:Hid (A.all (·.oneCell')=true)) (HAN:Hid (∀ j,j<16->A[j]? = some (.int .i64 (nd j)))) (HAH:Hid (∀ j,j<32->A[16+j]? = (enc hs)[j]?))
  (v:Value) (E:List Nd) (L:List Pn) (G:Nat->Prop) (hv:qai w v 8 E.length (qax E)) (hE:qbo G w E L) (hl:L.length<=1000) (hok:ybws nd L hs k):
  Calls Tryz.prog 85 #[.int .i64 (k:Int),.agg A,v,.map (some bm)] w
   (fun e w'=>e=.returned (.bool true)/\Below w.heap.size w w'):=by
 have HOK:=Lib.hid hok
 have HE:=Lib.hid hE
 obtain⟨nE,HNE⟩:∃ n,Hid (E.length=n):=⟨_,rfl⟩
 obtain⟨p,cp,hvs,HP⟩:=qel hv
 rw[HNE.out]at hvs HP
 subst hvs
 have hnE:nE<=1000:=by rw[<-HNE.out,hE.1];exact hl
 clear hok hE hv hl
 obtain⟨NN,HNN⟩:∃ N:Array Value,Hid (N=(A.toList.take 16).toArray):=⟨_,rfl⟩
 have HNS:Hid (NN.size=16):=by show _=_;rw[HNN.out];have:=HAS.out;simp;omega
 have HNP:Hid (∀ j,j<NN.size->A[0+j]? = NN[j]?):=fun j hj=>by
  rw[HNS.out]at hj
  rw[HNN.out,Nat.zero_add,<-Array.getElem?_toList,List.getElem?_toArray,List.getElem?_take,if_pos hj]
 obtain⟨Z0,HZ0⟩:∃ Z,Hid (Z=enc emp):=⟨_,rfl⟩
 have HZ:Hid (∀ w,(zeroValue 76).run Tryz.prog w=.ok (.agg Z0) w):=by rw[HZ0.out];exact setZ
 have HZI:Hid (Z0=enc (qdj (qjy nd 0))):=by show _=_;rw[HZ0.out];rfl
 have H0:Hid (qjo w (((((w.alloc (.cells #[.int .i64 (k:Int)] 3)).alloc (.cells A 78)).alloc (.cells #[.map (some bm)] 83)).alloc (.cells Z0 76)).alloc (.cells #[.bool true] 4)) k A Z0):=
  ⟨qad (qad (qad (qad (heap_alloc_new _ _) _) _) _) _,qad (qad (qad (qcm _ _ _ (by simp)) _) _) _,qad (qcm _ _ _ (by simp)) _,qcm _ _ _ (by simp),
   (((((Below.refl _ _).alloc (Nat.le_refl _) _).alloc (by simp) _).alloc (by simp;omega) _).alloc (by simp;omega) _).alloc (by simp;omega) _⟩
 go_enter Tryz.func85,Tryz.ntmps85
 go_wp2_with (first
  | (refine qbh rfl 76 rfl Z0 HZ.out ?_)
  | (refine qar (by kernel_rfl) 74 (.tmp 19) rfl (w.heap.size+1) 0 rfl 78 A NN (0,0) _ H0.out.c5 HNP.out qjw rfl (by rw[HNS.out];exact qze) ?_))
 generalize (((((w.alloc (.cells #[.int .i64 (k:Int)] 3)).alloc (.cells A 78)).alloc (.cells #[.map (some bm)] 83)).alloc (.cells Z0 76)).alloc (.cells #[.bool true] 4))=w0 at *
 go_loopw [21] (fun i wr=>∃ j:Nat,j<=16/\i=.int .i64 j/\Hid (qjo w wr k A (enc (qdj (qjy nd j))))) (fun i _=>16 - (intOf i).toNat)
 case atStart=>exact⟨0,by omega,rfl,by rw[<-HZI.out];exact H0⟩
 case round=>
  obtain⟨j,hj,rfl,HS⟩:=hrel
  by_cases hlt:j<16
  ·have hlt2:(j:Int)<16:=by omega
   have hyy:=HOK.out.nds j hlt
   obtain⟨y,Hy⟩:∃ y:Nat,Hid (nd j=(y:Int)):=⟨(nd j).toNat,by show _=_;omega⟩
   have hidx:∀ W:World,(Instr.index 74 (.agg NN) (.int .i64 (j:Int))).run Tryz.prog W=.ok (.int .i64 (y:Int)) W:=fun W=>
    qey _ _ 16 .i64 NN .i64 (j:Int) qjw intT intS (by omega) (by omega) _ (by
     have h1:=HNP.out j (by rw[HNS.out];exact hlt)
     rw[Int.toNat_natCast,<-h1,Nat.zero_add,HAN.out j hlt,Hy.out]) W
   have hs0:=ybua HOK.out.nodup hlt
   have HSN:=Lib.hid (qus nd j)
   rw[Hy.out]at hs0 hyy HSN
   rw[Int.toNat_natCast]at hs0 HSN
   have c4:wr.cell? ⟨w.heap.size,0,none⟩=some (.int .i64 (k:Int)):=cell_of_row _ _ _ _ _ _ HS.out.c4
   have HPUT:=Lib.hid (yboo wr y k (by omega) (by omega) hk w.heap.size (w.heap.size+1+1+1) (w.heap.size+1+1) (w.heap.size+1+1+1+1) _ _ (qdj (qjy nd j)) rfl rfl hs0 c4 HS.out.c9)
   clear c4 hs0
   go_wp2_with fail
   refine HPUT.out.mono ?_
   rintro e w3 ⟨rfl,hk3,h93⟩
   have HS3:Hid (qjo w w3 k A (enc (qdj (qjy nd (j+1))))):=by
    rw[HSN.out,qrt]
    exact HS.out.put hk3 h93
   clear hk3 h93 HPUT hidx
   go_wp2
   go_roundw
   case rel=>exact⟨j+1,by omega,by go_num,HS3⟩
   case measure=>simp[intOf];omega
  ·obtain rfl:j=16:=by omega
   have hlt2:¬ ((16:Nat):Int)<16:=by omega
   obtain⟨T,HT⟩:∃ T,Hid (qjy nd 16=T):=⟨_,rfl⟩
   have HND:=Lib.hid HOK.out.nodup
   rw[HT.out]at HS HND
   have HSS:Hid (qjo w wr k A (enc (qdj (T++qfg (L.take 0))))):=by show _;rw[show T++qfg (L.take 0)=T by simp[qfg]];exact HS.out
   have HLN:Hid (L.length=nE):=by show _=_;rw[<-HNE.out];exact HE.out.1.symm
   go_wp2
   go_loopw [30] (fun i wr=>∃ j:Nat,j<=nE/\i=.int .i64 j/\Hid (qjo w wr k A (enc (qdj (T++qfg (L.take j)))))) (fun i _=>nE - (intOf i).toNat)
   case atStart=>exact⟨0,by omega,rfl,HSS⟩
   case round=>
    clear HS HSS
    obtain⟨i,hi,rfl,HS⟩:=hrel
    by_cases hit:i<nE
    ·obtain⟨g,o,rfl,hg,hc⟩:=HP.out (by omega)
     have hiE:i<E.length:=by rw[HNE.out];exact hit
     have hiL:i<L.length:=by rw[HLN.out];exact hit
     obtain⟨d0,d1,d2,d3,d4,d5,d6,d7⟩:=qcz hc i hiE
     have HNI:=Lib.hid ((HE.out.2 i hiE hiL))
     have HFW:=Lib.hid (HOK.out.few _ (List.getElem_mem hiL))
     have HPT:=Lib.hid (HOK.out.pts _ (List.getElem_mem hiL))
     have HSN:=Lib.hid (qur L i hiL)
     have HOP:=Lib.hid (fun a ha=>yboc (a:=a) HND.out hiL ha)
     generalize L[i]=X at HNI HFW HPT HSN HOP
     generalize E[i]=x at d0 d1 d2 d3 d4 d5 d6 d7 HNI
     obtain⟨xk,xm,xu,xg,xs,xl,xup,xq,xn,xc⟩:=x
     have HB:=HS.out.below
     have c0:=(HB.cell (p:=⟨g,o+i*8,none⟩) hg).trans d0
     have c1:=(HB.cell (p:=⟨g,o+i*8+1,none⟩) hg).trans d1
     have c2:=(HB.cell (p:=⟨g,o+i*8+2,none⟩) hg).trans d2
     have c3:=(HB.cell (p:=⟨g,o+i*8+3,none⟩) hg).trans d3
     have c4:=(HB.cell (p:=⟨g,o+i*8+4,none⟩) hg).trans d4
     have c5:=(HB.cell (p:=⟨g,o+i*8+5,none⟩) hg).trans d5
     have c6:=(HB.cell (p:=⟨g,o+i*8+6,none⟩) hg).trans d6
     have c7:=(HB.cell (p:=⟨g,o+i*8+7,none⟩) hg).trans d7
     dsimp only at c0 c1 c2 c3 c4 c5 c6 c7
     have hlt2:(i:Int)<(nE:Int):=by omega
     have hgl:g<wr.heap.size:=Nat.lt_of_lt_of_le hg HB.size
     have hgn:¬ g=wr.heap.size:=by omega
     have HIP:Hid (qao w (.slice xq xn xc) X.P):=HNI.out.2.2.2.2.2.2.2.now
     obtain⟨n,HN⟩:∃ n,Hid (X.P.length=n):=⟨_,rfl⟩
     obtain⟨pp,pc,hpe,HPP⟩:=qib HIP.out
     injection hpe with e1 e2 e3
     subst e1 e3
     rw[HN.out]at e2 HPP
     subst e2
     have hn8:xn<=8:=by rw[<-HN.out];exact HFW.out
     clear hc d0 d1 d2 d3 d4 d5 d6 d7 HB
     have HSB:Hid (qjo w (wr.alloc (.cells #[.int .i64 xk,.int .i64 xm,.int .i64 xu,.int .i64 xg,.int .i64 xs,.int .i64 xl,.int .i64 xup,.slice xq xn xc] 103)) k A (enc (qdj (T++qfg (L.take i)++qem (X.P.take 0))))):=by
      show _
      rw[show T++qfg (L.take i)++qem (X.P.take 0)=T++qfg (L.take i) by simp[qem,nzF]]
      exact HS.out.step ((Below.refl _ _).alloc (Nat.le_refl _) _)
     go_wp2
     generalize wr.alloc (.cells #[.int .i64 xk,.int .i64 xm,.int .i64 xu,.int .i64 xg,.int .i64 xs,.int .i64 xl,.int .i64 xup,.slice xq xn xc] 103)=wn at *
     go_loopw [37] (fun i0 wr=>∃ a:Nat,a<=xn/\i0=.int .i64 a/\Hid (qjo w wr k A (enc (qdj (T++qfg (L.take i)++qem (X.P.take a)))))) (fun i0 _=>xn - (intOf i0).toNat)
     case atStart=>exact⟨0,by omega,rfl,HSB⟩
     case round=>
      clear HS HSB
      obtain⟨a,ha,rfl,HS⟩:=hrel
      by_cases hat:a<xn
      ·have haP:a<X.P.length:=by rw[HN.out];exact hat
       obtain⟨gp,op,rfl,hcp⟩:=HPP.out (by omega)
       have cj:=hcp a _ (qdn X.P a haP)
       have hgpl:=block_lt_of_cell cj
       have cj:=(HS.out.below.cell (p:=⟨gp,op+a,none⟩) hgpl).trans cj
       have HPS:=Lib.hid (qsl X.P a haP)
       have hpx:=HPT.out _ (List.getElem_mem haP)
       have hop:=HOP.out a haP
       obtain⟨x,Hx⟩:∃ x,Hid (X.P[a]'haP=x):=⟨_,rfl⟩
       rw[Hx.out]at cj HPS hpx hop
       have hat2:(a:Int)<(xn:Int):=by omega
       by_cases hx0:x=0
       ·subst hx0
        have HS3:Hid (qjo w wr k A (enc (qdj (T++qfg (L.take i)++qem (X.P.take (a+1)))))):=by
         rw[HPS.out,if_pos rfl,List.append_nil]
         exact HS.out
        clear hop hpx
        go_wp2
        go_roundw
        case rel=>exact⟨a+1,by omega,by go_num,HS3⟩
        case measure=>simp[intOf];omega
       ·have hx1:(x != 0)=true:=by simpa using hx0
        have hs0:=hop hx0
        obtain⟨y,Hy⟩:∃ y:Nat,Hid (x=(y:Int)):=⟨x.toNat,by show _=_;omega⟩
        have hyy:37<=y/\y<k:=by have:=Hy.out;omega
        have HS3F:Hid (qem (X.P.take (a+1))=qem (X.P.take a)++[y]):=by show _=_;rw[HPS.out,if_neg hx0,Hy.out];rfl
        rw[Hy.out]at hs0 cj hx1
        rw[Int.toNat_natCast]at hs0
        have c4:wr.cell? ⟨w.heap.size,0,none⟩=some (.int .i64 (k:Int)):=cell_of_row _ _ _ _ _ _ HS.out.c4
        have HPUT:=Lib.hid (yboo wr y k hyy.1 hyy.2 hk w.heap.size (w.heap.size+1+1+1) (w.heap.size+1+1) (w.heap.size+1+1+1+1) _ _ (qdj (T++qfg (L.take i)++qem (X.P.take a))) rfl rfl hs0 c4 HS.out.c9)
        clear hop hpx c4 hs0 hx0
        go_wp2_with fail
        refine HPUT.out.mono ?_
        rintro e w3 ⟨rfl,hk3,h93⟩
        have HS3:Hid (qjo w w3 k A (enc (qdj (T++qfg (L.take i)++qem (X.P.take (a+1)))))):=by
         rw[HS3F.out,<-List.append_assoc,qrt]
         exact HS.out.put hk3 h93
        clear hk3 h93 HPUT
        go_wp2
        go_roundw
        case rel=>exact⟨a+1,by omega,by go_num,HS3⟩
        case measure=>simp[intOf];omega
      ·obtain rfl:a=xn:=by omega
       have hat2:¬ (a:Int)<(a:Int):=by omega
       have HS3:Hid (qjo w wr k A (enc (qdj (T++qfg (L.take (i+1)))))):=by
        rw[HSN.out,<-List.append_assoc]
        have:=HS.out
        rw[<-HN.out,List.take_length]at this
        exact this
       go_wp2
       go_roundw
       case rel=>exact⟨i+1,by omega,by go_num,HS3⟩
       case measure=>simp[intOf];omega
    ·obtain rfl:i=nE:=by omega
     have hlt2:¬ (i:Int)<(i:Int):=by omega
     obtain⟨Q,HQ⟩:∃ Q,Hid (Q=enc hs):=⟨_,rfl⟩
     have HQP:Hid (∀ j,j<Q.size->A[16+j]? = Q[j]?):=fun j hj=>by rw[HQ.out]at hj ⊢;rw[qau]at hj;exact HAH.out j hj
     have HQS:Hid (Q.size=32):=by show _=_;rw[HQ.out];exact qau _
     have HQE:Hid (qjo w wr k A Q):=by
      have:=HS.out
      rw[<-HLN.out,List.take_length]at this
      have e:enc (qdj (T++qfg L))=Q:=by rw[HQ.out,<-HT.out];exact qrg fun m hm=>HOK.out.has m hm
      rw[e]at this
      exact this
     have HZZ:Hid (∀ W:World,(Op.equalIn 10000 76 (.agg Q) (.agg Q)).run Tryz.prog W=.ok true W):=fun W=>by rw[HQ.out];exact ybaa hs W
     have c10:wr.cell? ⟨w.heap.size+1+1+1+1,0,none⟩=some (.bool true):=cell_of_row _ _ _ _ _ _ HQE.out.c10
     go_wp2_with (first
      | (refine wpList_load_row rfl 76 (.tmp 9) rfl (w.heap.size+1+1+1) rfl 76 Q (0,0) _ HQE.out.c9 setT rfl (by rw[HQS.out];exact setI) ?_)
      | (refine qar (by kernel_rfl) 76 (.tmp 49) rfl (w.heap.size+1) 16 rfl 78 A Q (0,0) _ HQE.out.c5 HQP.out setT rfl (by rw[HQS.out];exact setI) ?_)
      | (refine ybar (by kernel_rfl) (.bool false) (ybdl 76 76 (.tmp 48) (.tmp 50) rfl Q Q rfl rfl true HZZ.out setG) ?_))
     go_ret
     exact⟨rfl,HQE.out.below⟩
theorem ybrr (f:Fo) (k j:Nat) (hj:j<32):(encT f k)[16+j]? = (enc (f.hs k))[j]? :=by
 rw[qmh f k (16+j) (by omega),qdh _ j hj];unfold qdb;rw[if_neg (by omega),show 16+j - 16=j by omega]
theorem ybiq (w:World) (f:Fo) (t k bm:Nat) (hk:k<=256) (v:Value) (E:List Nd) (L:List Pn) (G:Nat->Prop) (hv:qai w v 8 E.length (qax E)) (hE:qbo G w E L) (hl:L.length<=1000) (hok:ybws (f.nd t) L (f.hs t) k):
  Calls Tryz.prog 85 #[.int .i64 (k:Int),.agg (encT f t),v,.map (some bm)] w
   (fun e w'=>e=.returned (.bool true)/\Below w.heap.size w w'):=
 ybir w (f.nd t) (f.hs t) k bm hk _ (qgs f t) (ybem f t) (fun j hj=>ybel f t j hj) (fun j hj=>ybrr f t j hj) v E L G hv hE hl hok
theorem qpt : Tryz.prog.underlying 83=some (.map 3 4):=by kernel_rfl
theorem qmb : ∀ w,(zeroValue 4).run Tryz.prog w=.ok (.bool false) w:=(zero_of_info (P:=Tryz.prog) (t:=4) (v:=.bool false) (n:=1) (by kernel_rfl)).1
structure ybec (L : List Pn) (X : List En) : Prop where
 len:L.length=32
 kd:∀ i (h:i<L.length),(L[i].k=2 ↔ i=0)
 ino:∀ x ∈ X,1<x.2/\x.2<=32
 few:X.length<=32
theorem ybvp (w:World) (v:Value) (E:List Nd) (L:List Pn) (G:Nat->Prop) (hv:qai w v 8 E.length (qax E)) (hE:qbo G w E L) (X:List En) (hok:ybec L X) (ge ce bm:Nat) (xv:Value) (hx0:w.cell? ⟨ge,0,none⟩=some xv) (hX:qdd w xv X):
  Calls Tryz.prog 87 #[v,.slice (some ⟨ge,0,none⟩) 32 ce,.map (some bm)] w
   (fun e w'=>e=.returned (.tuple #[])/\Below w.heap.size w w'):=by
 have HOK:=Lib.hid hok
 have HE:=Lib.hid hE
 have hnE:E.length=32:=by rw[hE.1];exact hok.len
 obtain⟨p,cp,hvs,HP⟩:=qel hv
 rw[hnE]at hvs HP
 subst hvs
 obtain⟨g,o,rfl,hg,hc⟩:=HP.out (by omega)
 have HC:=Lib.hid hc
 have HNE:=Lib.hid hnE
 clear hok hE hv hc hnE HP
 obtain⟨N,HN⟩:∃ N,Hid (N=X.length):=⟨_,rfl⟩
 obtain⟨px,cx,rfl,hpx⟩:=qgt hX N HN.out
 have HPX:=Lib.hid hpx
 have hN32:N<=32:=by rw[HN.out];exact HOK.out.few
 have hgel:=block_lt_of_cell hx0
 have HX0:=Lib.hid hx0
 clear hpx hX hx0
 have hmm:=@run_makeMap Tryz.prog
 obtain⟨w1,hup,hM1,ht1⟩:=(MapL.made (P:=Tryz.prog) (K:=3) w).store intT qpt (by simp) (k:=1) (by unfold InZ;omega) (.bool true)
 have HB1:Hid (Below w.heap.size w w1):=Below.grown ((Below.refl _ _).alloc (Nat.le_refl _) _) ht1.grown (by simp) (fun q hq=>by injection hq with hq;omega)
 have HM1:=Lib.hid hM1
 clear hM1 ht1
 go_enter Tryz.func87,Tryz.ntmps87
 go_wp2
 have HB2:Hid (Below w.heap.size w (w1.alloc (.cells #[.int .i64 1] 3))):=HB1.out.alloc HB1.out.size _
 have HM2:Hid (MapL Tryz.prog 3 (w1.alloc (.cells #[.int .i64 1] 3)) w.heap.size [(1,.bool true)]):=HM1.out.of_block (Below.heap_alloc _ _ _ HM1.out.lt)
 have HT2:Hid ((w1.alloc (.cells #[.int .i64 1] 3)).heap[w1.heap.size]? = some (.cells #[.int .i64 1] 3 (0,0))):=heap_alloc_new _ _
 obtain⟨gt,Hgt⟩:∃ x,Hid (w1.heap.size=x):=⟨_,rfl⟩
 rw[Hgt.out]at HT2 ⊢
 generalize w1.alloc (.cells #[.int .i64 1] 3)=w2 at *
 go_loopw [7] (fun t wr=>((t=.slice (some ⟨gt,0,none⟩) 1 1)\/(∃ a c,t=.slice a 0 c))/\Hid (Below w.heap.size w wr)/\Hid (MapL Tryz.prog 3 wr w.heap.size [(1,.bool true)])/\Hid (wr.heap[gt]? = some (.cells #[.int .i64 1] 3 (0,0)))) (fun t _=>lenV t)
 case atStart=>exact⟨Or.inl rfl,HB2,HM2,HT2⟩
 case round=>
  clear HB2 HM2 HT2 hup
  obtain⟨htd,HB,HM,HT⟩:=hrel
  rcases htd with rfl | ⟨a0,c0,rfl⟩
  ·have t0:wr.cell? ⟨gt,0,none⟩=some (.int .i64 1):=cell_of_row _ _ _ _ _ _ HT.out
   have x0:=(HB.out.cell (p:=⟨ge,0,none⟩) hgel).trans HX0.out
   go_wp2
   go_loopw [7,31] (fun t i wr=>(∃ a c,t=.slice a 0 c)/\∃ j:Nat,j<=N/\i=.int .i64 j/\Hid (Below w.heap.size w wr)/\Hid (MapL Tryz.prog 3 wr w.heap.size [(1,.bool true)])/\Hid (wr.heap[gt]? = some (.cells #[.int .i64 1] 3 (0,0)))) (fun _ i _=>N - (intOf i).toNat)
   case atStart=>exact⟨⟨_,_,rfl⟩,0,by omega,rfl,HB,HM,HT⟩
   case round=>
    clear HB HM HT t0 x0
    obtain⟨⟨a1,c1,rfl⟩,j,hj,rfl,HB,HM,HT⟩:=hrel
    by_cases hlt:j<N
    ·have hjX:j<X.length:=by rw[<-HN.out];exact hlt
     obtain⟨gx,ox,rfl,hgx,hcx⟩:=HPX.out (by omega)
     obtain⟨d0,d1⟩:=hcx j hjX
     have d0:=(HB.out.cell (p:=⟨gx,ox+j*2,none⟩) hgx).trans d0
     have d1:=(HB.out.cell (p:=⟨gx,ox+(j*2+1),none⟩) hgx).trans d1
     have hno:=HOK.out.ino _ (List.getElem_mem hjX)
     generalize X[j]=x at d0 d1 hno
     obtain⟨xs,xi⟩:=x
     dsimp only at d0 d1 hno
     obtain⟨n,Hn⟩:∃ n:Nat,Hid (xi=(n:Int)+1):=⟨(xi - 1).toNat,by show _=_;omega⟩
     have hn32:1<=n/\n<32:=by have:=Hn.out;omega
     rw[Hn.out]at d1
     have i1:IntKind.i64.wrap ((n:Int)+1 - 1)=(n:Int):=by rw[IntWalk.i64_in _ (by omega)];omega
     have hiE:n<E.length:=by rw[HNE.out];omega
     have hiL:n<L.length:=by rw[HOK.out.len];omega
     obtain⟨e0,e1,e2,e3,e4,e5,e6,e7⟩:=qcz HC.out n hiE
     have hk2:E[n].k ≠ 2:=by
      rw[(HE.out.2 n hiE hiL).1]
      intro hc
      have:=(HOK.out.kd n hiL).1 hc
      omega
     generalize E[n]=y at e0 e1 e2 e3 e4 e5 e6 e7 hk2
     obtain⟨yk,ym,yu,yg,ys,yl,yup,yq,yn,yc⟩:=y
     have e0:=(HB.out.cell (p:=⟨g,o+n*8,none⟩) hg).trans e0
     have e1:=(HB.out.cell (p:=⟨g,o+n*8+1,none⟩) hg).trans e1
     have e2:=(HB.out.cell (p:=⟨g,o+n*8+2,none⟩) hg).trans e2
     have e3:=(HB.out.cell (p:=⟨g,o+n*8+3,none⟩) hg).trans e3
     have e4:=(HB.out.cell (p:=⟨g,o+n*8+4,none⟩) hg).trans e4
     have e5:=(HB.out.cell (p:=⟨g,o+n*8+5,none⟩) hg).trans e5
     have e6:=(HB.out.cell (p:=⟨g,o+n*8+6,none⟩) hg).trans e6
     have e7:=(HB.out.cell (p:=⟨g,o+n*8+7,none⟩) hg).trans e7
     dsimp only at e0 e1 e2 e3 e4 e5 e6 e7 hk2
     have b2:(yk != 2)=true:=by simpa using hk2
     have hlt2:(j:Int)<(N:Int):=by omega
     have hgl:g<wr.heap.size:=Nat.lt_of_lt_of_le hg HB.out.size
     have hgn:¬ g=wr.heap.size:=by omega
     have hgn1:¬ g=wr.heap.size+1:=by omega
     have hgxl:gx<wr.heap.size:=Nat.lt_of_lt_of_le hgx HB.out.size
     have hgxn:¬ gx=wr.heap.size:=by omega
     have ho1:ox+j*2+1=ox+(j*2+1):=by omega
     have HBN:Hid (Below wr.heap.size wr ((wr.alloc (.cells #[.string xs,.int .i64 ((n:Int)+1)] 100)).alloc (.cells #[.int .i64 yk,.int .i64 ym,.int .i64 yu,.int .i64 yg,.int .i64 ys,.int .i64 yl,.int .i64 yup,.slice yq yn yc] 103))):=((Below.refl _ _).alloc (Nat.le_refl _) _).alloc (by simp) _
     clear hcx hno hk2
     go_wp2
     go_roundw
     case rel=>exact⟨⟨_,_,rfl⟩,j+1,by omega,by go_num,Below.step HB.out HBN.out,HM.out.of_block (HBN.out.block _ HM.out.lt),qaa HBN.out HT.out⟩
     case measure=>simp[intOf];omega
    ·obtain rfl:j=N:=by omega
     have hlt2:¬ (j:Int)<(j:Int):=by omega
     go_wp2
     go_roundw
     case rel=>exact⟨Or.inr ⟨_,_,rfl⟩,HB,HM,HT⟩
     case measure=>simp[lenV]
  ·go_wp2
   go_loopw [66] (fun i wr=>∃ j:Nat,j<=32/\i=.int .i64 j/\Hid (Below w.heap.size w wr)/\Hid (MapL Tryz.prog 3 wr w.heap.size [(1,.bool true)])) (fun i _=>32 - (intOf i).toNat)
   case atStart=>exact⟨0,by omega,rfl,HB,HM⟩
   case round=>
    clear HB HM HT
    obtain⟨n,hn,rfl,HB,HM⟩:=hrel
    by_cases hlt:n<32
    ·have hiE:n<E.length:=by rw[HNE.out];omega
     have hiL:n<L.length:=by rw[HOK.out.len];omega
     obtain⟨e0,e1,e2,e3,e4,e5,e6,e7⟩:=qcz HC.out n hiE
     have hkk:E[n].k=2 ↔ n=0:=by
      rw[(HE.out.2 n hiE hiL).1]
      exact HOK.out.kd n hiL
     generalize E[n]=y at e0 e1 e2 e3 e4 e5 e6 e7 hkk
     obtain⟨yk,ym,yu,yg,ys,yl,yup,yq,yn,yc⟩:=y
     have e0:=(HB.out.cell (p:=⟨g,o+n*8,none⟩) hg).trans e0
     have e1:=(HB.out.cell (p:=⟨g,o+n*8+1,none⟩) hg).trans e1
     have e2:=(HB.out.cell (p:=⟨g,o+n*8+2,none⟩) hg).trans e2
     have e3:=(HB.out.cell (p:=⟨g,o+n*8+3,none⟩) hg).trans e3
     have e4:=(HB.out.cell (p:=⟨g,o+n*8+4,none⟩) hg).trans e4
     have e5:=(HB.out.cell (p:=⟨g,o+n*8+5,none⟩) hg).trans e5
     have e6:=(HB.out.cell (p:=⟨g,o+n*8+6,none⟩) hg).trans e6
     have e7:=(HB.out.cell (p:=⟨g,o+n*8+7,none⟩) hg).trans e7
     dsimp only at e0 e1 e2 e3 e4 e5 e6 e7 hkk
     have hlt2:(n:Int)<32:=by omega
     have hgl:g<wr.heap.size:=Nat.lt_of_lt_of_le hg HB.out.size
     have hgn:¬ g=wr.heap.size:=by omega
     have HBN:Hid (Below wr.heap.size wr (wr.alloc (.cells #[.int .i64 yk,.int .i64 ym,.int .i64 yu,.int .i64 yg,.int .i64 ys,.int .i64 yl,.int .i64 yup,.slice yq yn yc] 103))):=(Below.refl _ _).alloc (Nat.le_refl _) _
     have HMN:Hid (MapL Tryz.prog 3 (wr.alloc (.cells #[.int .i64 yk,.int .i64 ym,.int .i64 yu,.int .i64 yg,.int .i64 ys,.int .i64 yl,.int .i64 yup,.slice yq yn yc] 103)) w.heap.size [(1,.bool true)]):=HM.out.of_block (HBN.out.block _ HM.out.lt)
     have HBR:Hid (Below w.heap.size w (wr.alloc (.cells #[.int .i64 yk,.int .i64 ym,.int .i64 yu,.int .i64 yg,.int .i64 ys,.int .i64 yl,.int .i64 yup,.slice yq yn yc] 103))):=Below.step HB.out HBN.out
     by_cases h2:yk=2
     ·have hn0:=hkk.1 h2
      subst hn0 h2
      clear hkk
      simp only[Nat.zero_mul,Nat.add_zero]at e0 e1 e2 e3 e4 e5 e6 e7
      have hlk:=HMN.out.look (k:=1) intT qpt (qmb _) (by unfold InZ;omega)
      rw[show ((getZ [((1:Int),Value.bool true)] 1).getD (.bool false))=.bool true from rfl]at hlk
      by_cases hy0:0<yl
      ·go_wp2
       go_roundw
       case rel=>exact⟨1,by omega,by go_num,HBR,HMN⟩
       case measure=>simp[intOf]
      ·go_wp2
       go_roundw
       case rel=>exact⟨1,by omega,by go_num,HBR,HMN⟩
       case measure=>simp[intOf]
     ·have b2:(yk == 2)=false:=by simpa using h2
      clear hkk h2
      go_wp2
      go_roundw
      case rel=>exact⟨n+1,by omega,by go_num,HBR,HMN⟩
      case measure=>simp[intOf];omega
    ·obtain rfl:n=32:=by omega
     have hlt2:¬ ((32:Nat):Int)<32:=by omega
     go_wp2
     go_end0
     exact⟨rfl,HB.out⟩
end Go.Proofs.YtpoglnpjadmbpaaGreatDoor
