/- Part of the proofs of FsLinks: the texts CkOne. -/
import Derived.Test.YtpoglnpjadmbpaaGreatDoorKA23
import Derived.Test.YtpoglnpjadmbpaaGreatDoorKA26
import Derived.Test.YtpoglnpjadmbpaaGreatDoorKA27
set_option maxHeartbeats 16000000
set_option maxRecDepth 100000
namespace Go.Proofs.YtpoglnpjadmbpaaGreatDoor
open Go.RowKit
theorem ybyn (W:World):(Instr.makeSlice 148 (.int .i64 32) (.int .i64 32)).run Tryz.prog W=.ok (.slice (some ⟨W.heap.size,0,none⟩) 32 32) (W.alloc (.cells (List.replicate 32 (Value.slice none 0 0)).toArray 28)):=by kernel_rfl
theorem ybba {w:World} {r:Rdr} {N:Nat->List Int} {k:Nat} (h:RdAt w r N k) {p:Int} (h0:0<=p) (h1:p<(k:Int)):∀ x ∈ qby N p,0<=x/\x<=255:=fun x hx=>by
 unfold qby at hx
 split at hx
 ·rw[List.mem_replicate]at hx;omega
 ·exact h.byte _ (by omega) x hx
theorem ybbe {w:World} {r:Rdr} {N:Nat->List Int} {k:Nat} (h:RdAt w r N k) {P:List Int} (hP:qgd P k) (s:Int):∀ x ∈ qbc N P s,0<=x/\x<=255:=fun x hx=>by
 unfold qbc at hx
 obtain⟨p,hp,hx⟩:=List.mem_flatMap.1 (List.mem_of_mem_take hx)
 exact ybba h (hP p hp).1 (hP p hp).2 x hx
def qkt (N:Nat->List Int) (L:List Pn):List Int:=qbc N (L.getD 0 zN).P (L.getD 0 zN).s
def ybcp (X:List En) (i:Nat):Int:=(qek X).getD i 0+if i=0 then 1 else 0
structure qoa (N : Nat -> List Int) (f : Fo) (t k : Nat) (L : List Pn) : Prop where
 tree:qlz N (f.nd t) k
 eq:qfk N (f.nd t) 32=L
 own:ybws (f.nd t) L (f.hs t) k
 size:0<=(L.getD 0 zN).s/\(L.getD 0 zN).s<=512
 list:qcn (qkt N L)=true
 root:ybec L (outD (qkt N L))
 up:(L.getD 0 zN).up=1
 names:∀ i,i<32->(L.getD i zN).l=ybcp (outD (qkt N L)) i/\((L.getD i zN).k=0->ybcp (outD (qkt N L)) i<=0)
section
variable {P : Program}
theorem qxi {ops:Array Oper} {Q:Act->Prop} {rest:List Oper} {o:Oper} {a:Act} {C:World->Prop} (x:Operand) (nm:String) (ho:o.op=.call { callee:=.invoke x nm,args:=#[],argTypes:=#[] }) (hw:Region.wanted o (yielded ops a.tmps)=true) (f:FuncId) (args:Array Value)
  (he:∀ w,(execOp a.eval o).run P w=.ok (.enter f args) w) (v:Value)
  (hC:∀ w' w'',C w'->Below w'.heap.size w' w''->C w'') (hc:∀ w',C w'->Calls P f args w' fun e w''=>e=.returned v/\Below w'.heap.size w' w'') (h:wpQuiet P ops C Q rest (a.put o.dst v)):wpQuiet P ops C Q (o :: rest) a:=
 BigFrame.wpQuiet_want hw fun _ hK=>⟨v,fun w' hw'=>by
  have _:=ho
  unfold Oper.quietAt
  rw[he]
  exact⟨rfl,(hc w' hw').mono fun _ _ ⟨he,hb⟩=>⟨he,hC _ _ hw' hb⟩⟩,hK _ h⟩
end
theorem ybyx {w:World} {r:Rdr} {N:Nat->List Int} {k:Nat} (h:RdAt w r N k) (hk:k<=256) (hk0:64<=k) (f:Fo) (t bm:Nat) (L:List Pn) (hok:qoa N f t k L) (A:Array Value) (HA:Hid (A=encT f t)):
  Calls Tryz.prog 39 #[.iface r.T r.u,.agg A,.map (some bm)] w
   (fun e w'=>e=.returned (.tuple #[])/\Below w.heap.size w w'):=by
 have q4:=h.n2
 have q5:=h.m2
 have q6:=h.c2
 have HR:=Lib.hid h
 have HOK:=Lib.hid hok
 have HAS:Hid (A.size=48):=by rw[HA.out];exact qgs f t
 have HTR:Hid (∀ W:World,Below w.heap.size w W->Calls Tryz.prog 71 #[.iface r.T r.u,.agg A] W (fun e w'=>∃ v,e=.returned (.tuple #[v,.int .i64 0])/\ybeb W v L w')):=fun W hb=>by
  have:=ybgf (h.below hb) f t hok.tree
  rw[hok.eq]at this
  rw[HA.out]
  exact this
 clear h hok
 go_enter Tryz.func39,Tryz.ntmps39
 go_wp2_with (refine wpList_load_row rfl 78 (.tmp 4) rfl w.heap.size rfl 78 A (0,0) _ (heap_alloc_new _ _) Tryz.underlying78 rfl (by rw[HAS.out];exact ybjp) ?_)
 have HB1:Hid (Below w.heap.size w (w.alloc (.cells A 78))):=(Below.refl _ _).alloc (Nat.le_refl _) _
 have HT1:Hid ((w.alloc (.cells A 78)).heap[w.heap.size]? = some (.cells A 78 (0,0))):=heap_alloc_new _ _
 generalize w.alloc (.cells A 78)=w1 at *
 refine (HTR.out w1 HB1.out).mono ?_
 rintro e w2 ⟨v,rfl,E,hO,hE,hb2⟩
 have HO:=Lib.hid hO
 have HE:=Lib.hid hE
 have HB2:=Lib.hid (Below.step HB1.out hb2)
 have HT2:=Lib.hid (qaa hb2 HT1.out)
 have HLL:Hid (L.length=32):=HOK.out.root.len
 have HEL:Hid (E.length=32):=by show _=_;rw[HE.out.1];exact HLL.out
 obtain⟨p,cp,hvs,_⟩:=qat hO
 rw[HLL.out]at hvs
 subst hvs
 have HV2:Hid (qai w2 (.slice p 32 cp) 8 E.length (qax E)):=by
  have:=qai.of_owns hO
  rw[<-HE.out.1]at this
  exact this
 have HOW:Hid (∀ W:World,Below w2.heap.size w2 W->Calls Tryz.prog 85 #[.int .i64 (k:Int),.agg A,.slice p 32 cp,.map (some bm)] W (fun e w'=>e=.returned (.bool true)/\Below W.heap.size W w')):=fun W hb=>by
  rw[HA.out]
  exact ybiq W f t k bm hk _ E L _ (qai.below HV2.out hb) (HE.out.keep (qab.of_below hb)) (by rw[HLL.out];omega) HOK.out.own
 clear hO hE hb2 HT1 HTR
 go_wp2_with fail
 refine wp_region_quiet_below (by kernel_rfl) (by kernel_rfl) ?_
 repeat (first
  | go_big_quiet_skip
  | (refine qxi (.tmp 26) "Size" rfl rfl r.fs #[r.rs] (fun W => by simp [execOp, resolve, invoke, callMethod, go_sem, q5, q6]) (.int .i64 (k : Int)) (fun _ _ => qff) (fun w' hw => HR.out.size w' (Below.step HB2.out (qcd hw))) ?_; simp only [Act.put, List.setIfInBounds_toArray, List.set_cons_zero, List.set_cons_succ])
  | (refine qji rfl 78 (.tmp 4) rfl w.heap.size rfl 78 A (0,0) _ (fun _ hw=>qkk hw HT2.out) Tryz.underlying78 rfl (by rw[HAS.out];exact ybjp) ?_;simp only[Act.put,List.setIfInBounds_toArray,List.set_cons_zero,List.set_cons_succ])
  | (refine qeo 85 #[.tmp 27,.tmp 28,.tmp 29,.tmp 30] #[3,78,92,83] rfl rfl (fun _ _=>by kernel_rfl) #[.int .i64 (k:Int),.agg A,.slice p 32 cp,.map (some bm)] (by kernel_rfl) (.bool true) (fun _ _=>qff) (fun w' hw=>HOW.out w' (qcd hw)) ?_;simp only[Act.put,List.setIfInBounds_toArray,List.set_cons_zero,List.set_cons_succ])
  | (go_big_quiet_want;go_big_quiet_op;go_big_quiet_on))
 refine wpQuiet_nil ?_
 intro w3 hw3
 have hb3:=qcd hw3
 have HB3:=Lib.hid (Below.step HB2.out hb3)
 have HV3:=Lib.hid (qai.below HV2.out hb3)
 have HE3:=Lib.hid (HE.out.keep (qab.of_below hb3))
 clear hw3 hb3
 have hme:=ybyn
 obtain⟨ZE,HZE⟩:∃ Z,Hid ((List.replicate 32 (Value.slice none 0 0)).toArray=Z):=⟨_,rfl⟩
 rw[HZE.out]at hme
 have HZES:Hid (ZE.size=32):=by show _=_;rw[<-HZE.out];rfl
 obtain⟨p2,cp2,hv2,HP⟩:=qel HV3.out
 rw[HEL.out]at hv2 HP
 injection hv2 with e1 _ e2
 subst e1 e2
 obtain⟨g,o,rfl,hg,hc⟩:=HP.out (by omega)
 have HC:=Lib.hid hc
 clear hc HP
 have HD:=Lib.hid HOK.out.list
 obtain⟨X,HX⟩:∃ X,Hid (outD (qkt N L)=X):=⟨_,rfl⟩
 have HRO:=Lib.hid HOK.out.root
 have HNM:=Lib.hid HOK.out.names
 rw[HX.out]at HRO HNM
 go_wp2
 have HB4:Hid (Below w3.heap.size w3 (w3.alloc (.cells ZE 28))):=(Below.refl _ _).alloc (Nat.le_refl _) _
 have HZ4:Hid ((w3.alloc (.cells ZE 28)).heap[w3.heap.size]? = some (.cells ZE 28 (0,0))):=heap_alloc_new _ _
 obtain⟨be,Hbe⟩:∃ x,Hid (w3.heap.size=x):=⟨_,rfl⟩
 rw[Hbe.out]at HZ4 ⊢
 generalize w3.alloc (.cells ZE 28)=w4 at *
 go_loopw [9,38] (fun a i wr=>∃ j:Nat,j<=32/\i=.int .i64 j/\Hid (Below w3.heap.size w3 wr)/\((j=0/\a=.slice none 0 0/\Hid (wr.heap[be]? = some (.cells ZE 28 (0,0))))\/(0<j/\Hid (qdd wr a X)/\∃ xv,Hid (wr.cell? ⟨be,0,none⟩=some xv)/\Hid (qdd wr xv X)))) (fun _ i _=>32 - (intOf i).toNat)
 case atStart=>exact⟨0,by omega,rfl,HB4,Or.inl ⟨rfl,rfl,HZ4⟩⟩
 case round=>
  obtain⟨j,hj,rfl,HB,hor⟩:=hrel
  by_cases hlt:j<32
  ·have hjE:j<E.length:=by rw[HEL.out];exact hlt
   have hjL:j<L.length:=by rw[HLL.out];exact hlt
   obtain⟨e0,e1,e2,e3,e4,e5,e6,e7⟩:=qcz HC.out j hjE
   have HND:=Lib.hid ((HE3.out.2 j hjE hjL).keep (qab.of_below HB.out))
   have hk2:=HRO.out.kd j hjL
   rw[<-HND.out.1]at hk2
   have HFW:=Lib.hid (HOK.out.own.few _ (List.getElem_mem hjL))
   have HPT:=Lib.hid (HOK.out.own.pts _ (List.getElem_mem hjL))
   have HLD:Hid (L[j]=L.getD j zN):=by show _=_;rw[List.getD_eq_getElem?_getD,List.getElem?_eq_getElem hjL];rfl
   generalize L[j]=Y at HND HFW HPT HLD
   generalize E[j]=y at e0 e1 e2 e3 e4 e5 e6 e7 hk2 HND
   obtain⟨yk,ym,yu,yg,ys,yl,yup,yq,yn,yc⟩:=y
   have e0:=(HB.out.cell (p:=⟨g,o+j*8,none⟩) hg).trans e0
   have e1:=(HB.out.cell (p:=⟨g,o+j*8+1,none⟩) hg).trans e1
   have e2:=(HB.out.cell (p:=⟨g,o+j*8+2,none⟩) hg).trans e2
   have e3:=(HB.out.cell (p:=⟨g,o+j*8+3,none⟩) hg).trans e3
   have e4:=(HB.out.cell (p:=⟨g,o+j*8+4,none⟩) hg).trans e4
   have e5:=(HB.out.cell (p:=⟨g,o+j*8+5,none⟩) hg).trans e5
   have e6:=(HB.out.cell (p:=⟨g,o+j*8+6,none⟩) hg).trans e6
   have e7:=(HB.out.cell (p:=⟨g,o+j*8+7,none⟩) hg).trans e7
   dsimp only at e0 e1 e2 e3 e4 e5 e6 e7 hk2
   have hlt2:(j:Int)<32:=by omega
   have hgl:g<wr.heap.size:=Nat.lt_of_lt_of_le hg HB.out.size
   have hgn:¬ g=wr.heap.size:=by omega
   have HBN:Hid (Below wr.heap.size wr (wr.alloc (.cells #[.int .i64 yk,.int .i64 ym,.int .i64 yu,.int .i64 yg,.int .i64 ys,.int .i64 yl,.int .i64 yup,.slice yq yn yc] 103))):=(Below.refl _ _).alloc (Nat.le_refl _) _
   rcases hor with⟨hj0,rfl,HZr⟩ | ⟨hj0,HAr,xv,HXc,HXr⟩
   ·subst hj0
    have hk2:yk=2:=hk2.2 rfl
    subst hk2
    simp only[Nat.zero_mul,Nat.add_zero]at e0 e1 e2 e3 e4 e5 e6 e7
    obtain⟨f0,f1,f2,f3,f4,f5,f6,HIY⟩:=HND.out
    dsimp only at f0 f1 f2 f3 f4 f5 f6
    have HS0:=Lib.hid HOK.out.size
    rw[<-HLD.out,<-f4]at HS0
    have HPI:Hid (qgd Y.P k):=fun q hq=>by rcases HPT.out q hq with h0 | h0 <;> omega
    have HRB:=Lib.hid (HR.out.below (Below.step HB3.out (Below.step HB.out HBN.out)))
    have HBY:=Lib.hid (qxr HRB.out 2 ym yu yg ys yl yup (.slice yq yn yc) Y.P (qai.below HIY.now HBN.out) HFW.out HPI.out HS0.out.1 HS0.out.2)
    have HDY:Hid (qkt N L=qbc N Y.P ys):=by show _=_;unfold qkt;rw[<-HLD.out,f4]
    rw[<-HDY.out]at HBY
    obtain⟨D,HDD⟩:∃ D,Hid (qkt N L=D):=⟨_,rfl⟩
    rw[HDD.out]at HBY
    have HDb:Hid (∀ x ∈ D,0<=x/\x<=255):=by show _;rw[<-HDD.out,HDY.out];exact ybbe HR.out HPI.out ys
    have HDl:Hid (qcn D=true):=by show _;rw[<-HDD.out];exact HD.out
    have HDX:Hid (outD D=X):=by show _=_;rw[<-HDD.out];exact HX.out
    have HD512:Hid (D.length<=512):=((qcs D).1 HDl.out).2.1
    clear f0 f1 f2 f3 f4 f5 f6 HIY
    go_wp2_with fail
    refine HBY.out.mono ?_
    rintro e w5 ⟨v5,rfl,hO5,hb5⟩
    have HBI:Hid (qbk w5 v5 D):=⟨qai.of_owns hO5,qjx hO5⟩
    have HB5:=Lib.hid (Below.step HBN.out hb5)
    clear hO5 hb5 HBY
    go_wp2_with fail
    refine (qqg v5 D w5 HBI.out HDb.out (by have:=HD512.out;omega)).mono ?_
    rintro e w6 (⟨_,v6,rfl,hO6,hb6⟩ | ⟨hbad,_⟩)
    case inr=>exact absurd HDl.out (by rw[hbad];simp)
    rw[HDX.out]at hO6
    have HO6:=Lib.hid hO6
    have HB6:=Lib.hid (Below.step HB5.out hb6)
    have HZ6:=Lib.hid (qaa HB6.out HZr.out)
    clear hO6 hb6
    have z0:w6.cell? ⟨be,0,none⟩=ZE[0]? :=cell_of_row _ _ _ _ _ _ HZ6.out
    have z1:ZE[0]? = some (.slice none 0 0):=by rw[<-HZE.out];rfl
    rw[z1]at z0
    have fz:w6.frozen? ⟨be,0,none⟩=false:=frozen_of_row _ _ _ _ _ HZ6.out
    clear z1
    obtain⟨_,⟨hv6,h06⟩ | ⟨g6,c6,cur6,hv6,hg6,hh6,hc6,hm6,hs6,ht6⟩⟩:=id HO6.out
    ·subst hv6
     have hX0:X=[]:=List.length_eq_zero_iff.1 h06
     go_wp2
     go_roundw
     case rel=>
      refine⟨1,by omega,rfl,(Below.step HB.out HB6.out).setCell (by show w3.heap.size<=be;rw[Hbe.out];exact Nat.le_refl _) _,Or.inr ⟨by omega,?_,.slice none 0 0,?_,?_⟩⟩
      ·rw[hX0];exact⟨rfl,Or.inl ⟨rfl,none,0,rfl⟩⟩
      ·exact World.cell?_setCell_same _ _ _ z0
      ·rw[hX0];exact⟨rfl,Or.inl ⟨rfl,none,0,rfl⟩⟩
     case measure=>simp[intOf]
    ·subst hv6
     have HE6:Hid (qdd w6 (.slice (some ⟨g6,0,none⟩) X.length c6) X):=qai.of_owns HO6.out
     obtain⟨nX,HnX⟩:∃ n,Hid (X.length=n):=⟨_,rfl⟩
     rw[HnX.out]at HE6 ht6 ⊢
     have hnX:nX<=32:=by rw[<-HnX.out];exact HRO.out.few
     have HH6:=Lib.hid hh6
     have HEL6:Hid ((ents X).length=nX*2):=by show _=_;rw[qfo,HnX.out]
     have HE1:=Lib.hid (qvy X)
     have HCE:Hid (∀ (q:Nat) (u:Value),(ents X)[q]? = some u->w6.cell? ((⟨g6,0,none⟩:Addr).add q)=some u):=fun q u hq=>by
      have hadd:(⟨g6,0,none⟩:Addr).add q=⟨g6,q,none⟩:=by unfold Addr.add;split <;> simp_all
      have hql:=(List.getElem?_eq_some_iff.1 hq).1
      rw[HEL6.out]at hql
      rw[hadd,cell_of_row _ _ _ _ _ _ hh6,<-Array.getElem?_toList]
      rw[<-ht6,List.getElem?_take,if_pos hql]at hq
      exact hq
     obtain⟨i0,hi0,hz0,hz1,hz2⟩:=info_parts qrh
     have HI0:=Lib.hid hi0
     have HIZ:=Lib.hid hz0
     have HI1:=Lib.hid hz1
     have HI2:=Lib.hid hz2
     clear hi0 hz0 hz1 hz2 hh6 ht6 hm6 hs6 hc6
     go_wp2_with (at_builtin;refine wpList_append_own _ rfl _ _ 28 rfl w6.heap.size 100 i0 (.agg #[.string { data:=#[] },.int .i64 0]) 2 24 ybbq HI0.out HIZ.out HI1.out HI2.out rfl (by decide) _ _ _ rfl (World.ownsRow_nil _ _ _ _) ⟨g6,0,none⟩ nX c6 (ents X) rfl HEL6.out HCE.out HE1.out (by unfold maxLen;omega) (by omega) (Nat.le_refl _) ?_;intro v7 w7 hown hgrow _;have HB67:Hid (Below w6.heap.size w6 w7):=(Below.refl _ _).grown hgrow (Nat.le_refl _) (fun q hq=>by cases hq);have HZ7:=Lib.hid (qaa HB67.out HZ6.out);have z7:w7.cell? ⟨be,0,none⟩=some (.slice none 0 0):=(HB67.out.cell (p:=⟨be,0,none⟩) (qac HZ6.out)).trans z0;have fz7:w7.frozen? ⟨be,0,none⟩=false:=frozen_of_row _ _ _ _ _ HZ7.out)
     have HE7:Hid (qdd w7 v7 X):=by
      have:=qai.of_owns hown
      rw[Nat.zero_add,List.nil_append,<-HnX.out]at this
      exact this
     have HX7:=Lib.hid (qai.below HE6.out HB67.out)
     have HN7:Hid (∀ b,v7.ownBlock=some b->b ≠ be):=fun b hb hc=>by
      have h1:=(hown.lt b hb).1
      have h2:=qac HZ6.out
      omega
     have HN6:Hid (g6 ≠ be):=qam HH6.out HZ6.out (by decide)
     clear z0 fz hown hgrow
     go_roundw
     case rel=>
      have hkb:∀ b,b ≠ be->(w7.setCell ⟨be,0,none⟩ (.slice (some ⟨g6,0,none⟩) nX c6)).heap[b]? = w7.heap[b]? :=fun b hb=>Below.heap_setCell w7 _ _ b hb
      refine⟨1,by omega,rfl,(Below.step HB.out (Below.step HB6.out HB67.out)).setCell (by show w3.heap.size<=be;rw[Hbe.out];exact Nat.le_refl _) _,Or.inr ⟨by omega,qja HE7.out (fun b hb _=>hkb b (HN7.out b hb)),_,World.cell?_setCell_same _ _ _ z7,qja HX7.out (fun b hb _=>hkb b ?_)⟩⟩
      injection hb with hb
      rw[<-hb]
      exact HN6.out
     case measure=>simp[intOf]
   ·have b2:(yk == 2)=false:=by
     have:¬ yk=2:=fun hc=>by have:=hk2.1 hc;omega
     simpa using this
    clear hk2
    go_wp2
    go_roundw
    case rel=>exact⟨j+1,by omega,by go_num,Below.step HB.out HBN.out,Or.inr ⟨by omega,qai.below HAr.out HBN.out,xv,(HBN.out.cell (p:=⟨be,0,none⟩) (block_lt_of_cell HXc.out)).trans HXc.out,qai.below HXr.out HBN.out⟩⟩
    case measure=>simp[intOf];omega
  ·obtain rfl:j=32:=by omega
   have hlt2:¬ ((32:Nat):Int)<32:=by omega
   rcases hor with⟨hj0,_⟩ | ⟨_,HAr,xv,HXc,HXr⟩
   ·omega
   have hX32:X.length<=32:=HRO.out.few
   go_wp2_with fail
   refine (ybnk _ X _ HAr.out (by omega)).mono ?_
   rintro e w5 ⟨gn,rfl,hhn,hgn5,hb5⟩
   have HN5:=Lib.hid hhn
   have HB5:=Lib.hid (Below.step HB.out hb5)
   have HXc5:=Lib.hid ((hb5.cell (p:=⟨be,0,none⟩) (block_lt_of_cell HXc.out)).trans HXc.out)
   have HXr5:=Lib.hid (qai.below HXr.out hb5)
   have hbe5:be ≠ gn:=by have:=block_lt_of_cell HXc.out;show be ≠ gn;have h2:be<wr.heap.size:=this;omega
   have hgn3:w3.heap.size<=gn:=Nat.le_trans HB.out.size hgn5
   have HXN:Hid (∀ b,xv.ownBlock=some b->b<wr.heap.size->b ≠ gn):=fun b _ hb hc=>by omega
   obtain⟨NM,HNMe⟩:∃ l,Hid (qek X=l):=⟨_,rfl⟩
   have hNMl:NM.length=32:=by rw[<-HNMe.out];have:=(qix X X.length (Nat.le_refl _)).1;rwa [List.take_length]at this
   have hNMb:∀ i,0<=NM.getD i 0/\NM.getD i 0<=32:=fun i=>by
    rw[<-HNMe.out]
    have:=(qix X X.length (Nat.le_refl _)).2 i
    rw[List.take_length]at this
    omega
   rw[HNMe.out]at HN5
   have n0:w5.cell? ⟨gn,0,none⟩=some (.int .i64 (NM.getD 0 0)):=by
    rw[cell_of_row _ _ _ _ _ _ HN5.out,<-Array.getElem?_toList]
    have:=qdn NM 0 (by omega)
    rw[this,List.getD_eq_getElem?_getD,List.getElem?_eq_getElem (by omega)];rfl
   have fn0:w5.frozen? ⟨gn,0,none⟩=false:=frozen_of_row _ _ _ _ _ HN5.out
   have i1:IntKind.i64.wrap (NM.getD 0 0+1)=NM.getD 0 0+1:=IntWalk.i64_in _ (by have:=hNMb 0;omega)
   obtain⟨n0v,Hn0⟩:∃ x,Hid (NM.getD 0 0=x):=⟨_,rfl⟩
   rw[Hn0.out]at n0 i1
   have HNC:Hid (∀ i,i<32->(w5.setCell ⟨gn,0,none⟩ (.int .i64 (n0v+1))).cell? ⟨gn,i,none⟩=some (.int .i64 (ybcp X i))):=fun i hi=>by
    unfold ybcp
    rw[HNMe.out]
    by_cases hi0:i=0
    ·subst hi0
     rw[World.cell?_setCell_same _ _ _ n0,if_pos rfl,Hn0.out]
    ·rw[World.cell?_setCell_other _ _ _ _ (by intro hc;injection hc with _ h2;exact hi0 h2.symm),if_neg hi0,Int.add_zero,cell_of_row _ _ _ _ _ _ HN5.out,<-Array.getElem?_toList]
     have:=qdn NM i (by omega)
     rw[this,List.getD_eq_getElem?_getD,List.getElem?_eq_getElem (by omega)];rfl
   have HB6:Hid (Below w3.heap.size w3 (w5.setCell ⟨gn,0,none⟩ (.int .i64 (n0v+1)))):=HB5.out.setCell hgn3 _
   have HXc6:Hid ((w5.setCell ⟨gn,0,none⟩ (.int .i64 (n0v+1))).cell? ⟨be,0,none⟩=some xv):=(World.cell?_of_block (Below.heap_setCell w5 _ _ be hbe5)).trans HXc5.out
   have HXr6:Hid (qdd (w5.setCell ⟨gn,0,none⟩ (.int .i64 (n0v+1))) xv X):=qja HXr.out (fun b _ hl=>(Below.heap_setCell w5 _ _ b (by show b ≠ gn;omega)).trans (hb5.block b hl))
   have hgn6:gn<(w5.setCell ⟨gn,0,none⟩ (.int .i64 (n0v+1))).heap.size:=by have:=qac HN5.out;simp[World.setCell];exact this
   have hgw6:g<(w5.setCell ⟨gn,0,none⟩ (.int .i64 (n0v+1))).heap.size:=Nat.lt_of_lt_of_le hg HB6.out.size
   clear hhn hb5 hgn5 hNMb
   go_wp2
   clear n0 fn0 HN5 HB5 HXc5 HXr5
   generalize w5.setCell ⟨gn,0,none⟩ (.int .i64 (n0v+1))=w6 at *
   go_loopw [75] (fun i wr=>∃ j:Nat,j<=32/\i=.int .i64 j/\Hid (Below w6.heap.size w6 wr)) (fun i _=>32 - (intOf i).toNat)
   case atStart=>exact⟨0,by omega,rfl,Below.refl _ _⟩
   case round=>
    obtain⟨j,hj,rfl,HBw⟩:=hrel
    have HBr:=Lib.hid (Below.step HB6.out HBw.out)
    by_cases hlt:j<32
    ·have hjE:j<E.length:=by rw[HEL.out];exact hlt
     have hjL:j<L.length:=by rw[HLL.out];exact hlt
     obtain⟨e0,e1,e2,e3,e4,e5,e6,e7⟩:=qcz HC.out j hjE
     have HND:=HE3.out.2 j hjE hjL
     have hnm:=HNM.out j hlt
     rw[show L.getD j zN=L[j] by rw[List.getD_eq_getElem?_getD,List.getElem?_eq_getElem hjL];rfl,<-HND.2.2.2.2.2.1,<-HND.1]at hnm
     clear HND
     generalize E[j]=y at e0 e1 e2 e3 e4 e5 e6 e7 hnm
     obtain⟨yk,ym,yu,yg,ys,yl,yup,yq,yn,yc⟩:=y
     have e0:=(HBr.out.cell (p:=⟨g,o+j*8,none⟩) hg).trans e0
     have e1:=(HBr.out.cell (p:=⟨g,o+j*8+1,none⟩) hg).trans e1
     have e2:=(HBr.out.cell (p:=⟨g,o+j*8+2,none⟩) hg).trans e2
     have e3:=(HBr.out.cell (p:=⟨g,o+j*8+3,none⟩) hg).trans e3
     have e4:=(HBr.out.cell (p:=⟨g,o+j*8+4,none⟩) hg).trans e4
     have e5:=(HBr.out.cell (p:=⟨g,o+j*8+5,none⟩) hg).trans e5
     have e6:=(HBr.out.cell (p:=⟨g,o+j*8+6,none⟩) hg).trans e6
     have e7:=(HBr.out.cell (p:=⟨g,o+j*8+7,none⟩) hg).trans e7
     have en:=(HBw.out.cell (p:=⟨gn,j,none⟩) hgn6).trans (HNC.out j hlt)
     dsimp only at e0 e1 e2 e3 e4 e5 e6 e7 hnm
     obtain⟨nm,Hnm⟩:∃ x,Hid (ybcp X j=x):=⟨_,rfl⟩
     rw[Hnm.out]at en hnm
     obtain⟨hy1,hy2⟩:=hnm
     subst hy1
     have hlt2:(j:Int)<32:=by omega
     have hgl:g<wr.heap.size:=Nat.lt_of_lt_of_le hg HBr.out.size
     have hgn':¬ g=wr.heap.size:=by omega
     have hgnl:gn<wr.heap.size:=Nat.lt_of_lt_of_le hgn6 HBw.out.size
     have hgnn:¬ gn=wr.heap.size:=by omega
     have HBN:Hid (Below wr.heap.size wr (wr.alloc (.cells #[.int .i64 yk,.int .i64 ym,.int .i64 yu,.int .i64 yg,.int .i64 ys,.int .i64 yl,.int .i64 yup,.slice yq yn yc] 103))):=(Below.refl _ _).alloc (Nat.le_refl _) _
     have a0:(wr.alloc (.cells #[.int .i64 yk,.int .i64 ym,.int .i64 yu,.int .i64 yg,.int .i64 ys,.int .i64 yl,.int .i64 yup,.slice yq yn yc] 103)).cell? ⟨wr.heap.size,0,none⟩=some (.int .i64 yk):=cell_of_row _ _ _ _ _ _ (heap_alloc_new _ _)
     have a5:(wr.alloc (.cells #[.int .i64 yk,.int .i64 ym,.int .i64 yu,.int .i64 yg,.int .i64 ys,.int .i64 yl,.int .i64 yup,.slice yq yn yc] 103)).cell? ⟨wr.heap.size,5,none⟩=some (.int .i64 yl):=cell_of_row _ _ _ _ _ _ (heap_alloc_new _ _)
     have an:(wr.alloc (.cells #[.int .i64 yk,.int .i64 ym,.int .i64 yu,.int .i64 yg,.int .i64 ys,.int .i64 yl,.int .i64 yup,.slice yq yn yc] 103)).cell? ⟨gn,j,none⟩=some (.int .i64 yl):=(HBN.out.cell (p:=⟨gn,j,none⟩) hgnl).trans en
     have HBr2:Hid (Below w6.heap.size w6 (wr.alloc (.cells #[.int .i64 yk,.int .i64 ym,.int .i64 yu,.int .i64 yg,.int .i64 ys,.int .i64 yl,.int .i64 yup,.slice yq yn yc] 103))):=Below.step HBw.out HBN.out
     have b1:(yl != yl)=false:=by simp
     go_upto_region 21 with fail
     clear e0 e1 e2 e3 e4 e5 e6 e7 en
     generalize wr.alloc (.cells #[.int .i64 yk,.int .i64 ym,.int .i64 yu,.int .i64 yg,.int .i64 ys,.int .i64 yl,.int .i64 yup,.slice yq yn yc] 103)=wn at *
     by_cases hy0:yk=0
     ·have b2:(yk == 0)=true:=by simpa using hy0
      have b3:decide (0<yl)=false:=decide_eq_false (by have:=hy2 hy0;omega)
      have b4:decide (yl > 0)=false:=b3
      subst hy0
      go_quiet (fail)
      have HBq:Hid (Below w6.heap.size w6 (wn.drewN nq)):=qgf HBr2.out nq
      go_wp2
      go_roundw
      case rel=>exact⟨j+1,by omega,by go_num,HBq⟩
      case measure=>simp[intOf];omega
     ·have b2:(yk == 0)=false:=by simpa using hy0
      go_quiet (fail)
      have HBq:Hid (Below w6.heap.size w6 (wn.drewN nq)):=qgf HBr2.out nq
      go_wp2
      go_roundw
      case rel=>exact⟨j+1,by omega,by go_num,HBq⟩
      case measure=>simp[intOf];omega
    ·obtain rfl:j=32:=by omega
     have hlt2:¬ ((32:Nat):Int)<32:=by omega
     have hE0:0<E.length:=by rw[HEL.out];omega
     have hL0:0<L.length:=by rw[HLL.out];omega
     obtain⟨e0,_,_,_,_,_,e6,_⟩:=qcz HC.out 0 hE0
     have HND:=HE3.out.2 0 hE0 hL0
     have hk0':=(HRO.out.kd 0 hL0).2 rfl
     have hup:=HOK.out.up
     rw[show L.getD 0 zN=L[0] by rw[List.getD_eq_getElem?_getD,List.getElem?_eq_getElem hL0];rfl,<-HND.2.2.2.2.2.2.1]at hup
     rw[<-HND.1]at hk0'
     rw[hk0']at e0
     rw[hup]at e6
     have e0:=(HBr.out.cell (p:=⟨g,o+0*8,none⟩) hg).trans e0
     have e6:=(HBr.out.cell (p:=⟨g,o+0*8+6,none⟩) hg).trans e6
     simp only[Nat.zero_mul,Nat.add_zero]at e0 e6
     have hxc:=(HBw.out.cell (p:=⟨be,0,none⟩) (block_lt_of_cell HXc6.out)).trans HXc6.out
     have HWY:=Lib.hid (ybvp wr (.slice (some ⟨g,o,none⟩) 32 cp) E L _ (qai.below HV3.out HBr.out) (HE3.out.keep (qab.of_below HBr.out)) X HRO.out be 32 bm xv hxc (qai.below HXr6.out HBw.out))
     clear HND hk0' hup hxc
     go_wp2_with fail
     refine HWY.out.mono ?_
     rintro e w7 ⟨rfl,hb7⟩
     have HB7:=Lib.hid (Below.step HB3.out (Below.step HBr.out hb7))
     clear hb7 HWY
     go_wp2
     go_end0
     exact⟨rfl,HB7.out⟩
theorem ybyw {w:World} {r:Rdr} {N:Nat->List Int} {k:Nat} (h:RdAt w r N k) (hk:k<=256) (hk0:64<=k) (f:Fo) (t bm:Nat) (L:List Pn) (hok:qoa N f t k L):
  Calls Tryz.prog 39 #[.iface r.T r.u,.agg (encT f t),.map (some bm)] w (fun e w'=>e=.returned (.tuple #[])/\Below w.heap.size w w'):=ybyx h hk hk0 f t bm L hok _ rfl
end Go.Proofs.YtpoglnpjadmbpaaGreatDoor
