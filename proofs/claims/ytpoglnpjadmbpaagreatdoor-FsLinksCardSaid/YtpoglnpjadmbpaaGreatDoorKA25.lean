/- Part of the proofs of FsLinks: the texts Out, CkTree. -/
import Derived.Test.YtpoglnpjadmbpaaGreatDoorKA15
import Derived.Test.YtpoglnpjadmbpaaGreatDoorKA21
set_option maxHeartbeats 16000000
set_option maxRecDepth 100000
namespace Go.Proofs.YtpoglnpjadmbpaaGreatDoor
open Go.RowKit
def Out (G:Nat->Prop) (w:World) (φ:World->Prop):Prop:=∀ w',qab G w w'->φ w'
section
variable {G G' : Nat -> Prop} {w w1 : World} {φ ψ : World -> Prop}
theorem Out.now (h:Out G w φ):φ w:=h w (qab.refl _ _)
theorem Out.keep (h:Out G w φ) (k:qab G w w1):Out G w1 φ:=fun w' hk=>h w' (k.step hk)
theorem Out.below (h:Out G w φ) (k:Below w.heap.size w w1):Out G w1 φ:=h.keep (qab.of_below k)
theorem Out.grow (h:Out G w φ) (hG:∀ i,i<w.heap.size->G' i->G i):Out G' w φ:=fun w' hk=>h w' (hk.mono hG)
theorem Out.mono (h:Out G w φ) (f:∀ w',φ w'->ψ w'):Out G w ψ:=fun w' hk=>f w' (h w' hk)
end
theorem qja {w w':World} {v:Value} {k n:Nat} {xs:List Value} (h:qai w v k n xs) (hb:∀ b,v.ownBlock=some b->b<w.heap.size->w'.heap[b]? = w.heap[b]?):qai w' v k n xs:=by
 obtain⟨h1,h2⟩:=h
 refine⟨h1,h2.imp id ?_⟩
 rintro ⟨g,off,cap,rfl,hc⟩
 refine⟨g,off,cap,rfl,fun j x hx=>?_⟩
 have h3:=hc j x hx
 exact (World.cell?_of_block (hb g rfl (block_lt_of_cell h3))).trans h3
theorem qwn {G:Nat->Prop} {w:World} {v:Value} {k n:Nat} {xs:List Value} (h:qai w v k n xs) (hG:∀ b,v.ownBlock=some b->b<w.heap.size->¬ G b):Out G w (fun w'=>qai w' v k n xs):=
 fun _ hk=>qja h fun b hb hl=>hk.block b hl (hG b hb hl)
theorem ybfo {G:Nat->Prop} {w:World} {base:Nat} {e:TypeId} {size n:Nat} {v:Value} {xs:List Value} (h:w.ownsRow base e size v n xs) (hG:∀ b,v.ownBlock=some b->¬ G b):Out G w (fun w'=>w'.ownsRow base e size v n xs):=
 fun _ hk=>qbi h fun q hq=>hk.block q (h.lt q hq).2 (hG q hq)
structure Pn where
 k:Int
 m:Int
 u:Int
 g:Int
 s:Int
 l:Int
 up:Int
 P:List Int
def zN : Pn:=⟨0,0,0,0,0,0,0,[]⟩
def NdIs (G:Nat->Prop) (w:World) (e:Nd) (x:Pn):Prop:=
 e.k=x.k/\e.m=x.m/\e.u=x.u/\e.g=x.g/\e.s=x.s/\e.l=x.l/\e.up=x.up/\Out G w (fun w'=>qao w' (.slice e.q e.n e.c) x.P)
theorem NdIs.keep {G:Nat->Prop} {w w1:World} {e:Nd} {x:Pn} (h:NdIs G w e x) (k:qab G w w1):NdIs G w1 e x:=by
 obtain⟨h1,h2,h3,h4,h5,h6,h7,h8⟩:=h
 exact⟨h1,h2,h3,h4,h5,h6,h7,h8.keep k⟩
theorem NdIs.grow {G G':Nat->Prop} {w:World} {e:Nd} {x:Pn} (h:NdIs G w e x) (hG:∀ i,i<w.heap.size->G' i->G i):NdIs G' w e x:=by
 obtain⟨h1,h2,h3,h4,h5,h6,h7,h8⟩:=h
 exact⟨h1,h2,h3,h4,h5,h6,h7,h8.grow hG⟩
def qbo (G:Nat->Prop) (w:World) (E:List Nd) (L:List Pn):Prop:=E.length=L.length/\∀ i (h:i<E.length) (h':i<L.length),NdIs G w E[i] L[i]
theorem qbo.keep {G:Nat->Prop} {w w1:World} {E:List Nd} {L:List Pn} (h:qbo G w E L) (k:qab G w w1):qbo G w1 E L:=⟨h.1,fun i h1 h2=>(h.2 i h1 h2).keep k⟩
theorem qbo.grow {G G':Nat->Prop} {w:World} {E:List Nd} {L:List Pn} (h:qbo G w E L) (hG:∀ i,i<w.heap.size->G' i->G i):qbo G' w E L:=⟨h.1,fun i h1 h2=>(h.2 i h1 h2).grow hG⟩
theorem qbo.snoc {G:Nat->Prop} {w:World} {E:List Nd} {L:List Pn} {e:Nd} {x:Pn} (h:qbo G w E L) (hx:NdIs G w e x):qbo G w (E++[e]) (L++[x]):=by
 refine⟨by simp[h.1],fun i h1 h2=>?_⟩
 by_cases hi:i<E.length
 ·rw[List.getElem_append_left hi,List.getElem_append_left (by rw[<-h.1];exact hi)]
  exact h.2 i hi (by rw[<-h.1];exact hi)
 ·have e1:i=E.length:=by simp at h1;omega
  subst e1
  rw[List.getElem_append_right (Nat.le_refl _),List.getElem_append_right (by rw[h.1];exact Nat.le_refl _)]
  simpa using hx
theorem qbo.set {G:Nat->Prop} {w:World} {E:List Nd} {L:List Pn} {e:Nd} {x:Pn} (h:qbo G w E L) (hx:NdIs G w e x) (j:Nat):qbo G w (E.set j e) (L.set j x):=by
 refine⟨by simp[h.1],fun i h1 h2=>?_⟩
 rw[List.getElem_set,List.getElem_set]
 by_cases hj:j=i
 ·rw[if_pos hj,if_pos hj];exact hx
 ·rw[if_neg hj,if_neg hj];exact h.2 i (by simpa using h1) (by simpa using h2)
theorem qbo.nil (G:Nat->Prop) (w:World):qbo G w [] []:=⟨rfl,fun i h=>by simp at h⟩
theorem ybyr {G:Nat->Prop} {w:World} {B:Nat} {v:Value} {P:List Int} (h:ybaw B w v P) (hG:∀ i,i<w.heap.size->G i->i<B):Out G w (fun w'=>qao w' v P):=
 qwn h.1 fun b hb hl hg=>by have:=h.2 b hb;have:=hG b hl hg;omega
def pnOf (bs:List Int):Pn:=⟨bs.getD 0 0,bs.getD 1 0+bs.getD 2 0*256,bs.getD 3 0,bs.getD 4 0,bs.getD 5 0+bs.getD 6 0*256,bs.getD 7 0,bs.getD 8 0,ptsN bs⟩
def half (D:List Int) (i:Nat):List Int:=(D.drop (32*i)).take 32
def qhj (N:Nat->List Int) (nd:Nat->Int) (j:Nat):List Int:=half (N (nd (j / 2)).toNat) (j % 2)
def qfk (N:Nat->List Int) (nd:Nat->Int) (n:Nat):List Pn:=(List.range n).map fun j=>pnOf (qhj N nd j)
theorem ybjq (N:Nat->List Int) (nd:Nat->Int) (n:Nat):qfk N nd (n+1)=qfk N nd n++[pnOf (qhj N nd n)]:=by unfold qfk;rw[List.range_succ,List.map_append];rfl
theorem qta (N:Nat->List Int) (nd:Nat->Int) (n:Nat):(qfk N nd n).length=n:=by simp[qfk]
theorem ybwg : (Tryz.prog.info? 103).map (fun i=>(i.zero,i.size,i.bytes))=some (some (.agg #[.int .i64 0,.int .i64 0,.int .i64 0,.int .i64 0,.int .i64 0,.int .i64 0,.int .i64 0,.slice none 0 0]),8,80):=by kernel_rfl
theorem ndsT : Tryz.prog.underlying 92=some (.slice 103):=by kernel_rfl
theorem ybcs (E:List Nd) (e:Nd):qax (E++[e])=qax E++nd8 e:=by unfold qax;rw[List.flatMap_append];simp
def qlz (N:Nat->List Int) (nd:Nat->Int) (k:Nat):Prop:=(∀ j,j<16->0<=nd j/\nd j<(k:Int))/\∀ j,j<32->qmr (qhj N nd j)
def qob (w:World) (o:Value):Nat->Prop:=fun i=>i<w.heap.size\/o.ownBlock=some i
def ybeb (w:World) (v:Value) (L:List Pn) (w':World):Prop:=∃ E,w'.ownsRow (w.heap.size+1) 103 8 v L.length (qax E)/\qbo (qob w v) w' E L/\Below w.heap.size w w'
theorem ybhu {w:World} {g cap:Nat} {cur:Array Value} {D:List Int} (hD:D.length=64) (hh:w.heap[g]? = some (.cells cur 5 (0,0))) (ht:cur.toList.take 64=u8s D) (i:Nat) (hi:i<2):
  qaf w (.slice (some ⟨g,32*i,none⟩) 32 cap) (half D i):=by
 have hl:(half D i).length=32:=by unfold half;rw[List.length_take,List.length_drop];omega
 refine⟨by rw[qal,Nat.mul_one],Or.inr ⟨g,32*i,cap,by rw[hl],fun j x hx=>?_⟩⟩
 have hj:=(List.getElem?_eq_some_iff.1 hx).1
 rw[qal,hl]at hj
 rw[cell_of_row _ _ _ _ _ _ hh,<-Array.getElem?_toList]
 have e:cur.toList[32*i+j]? = (u8s D)[32*i+j]? :=by rw[<-ht,List.getElem?_take,if_pos (by omega)]
 rw[e,<-hx]
 unfold half
 rw[qdf,qdq,List.getElem?_take,if_pos hj,List.getElem?_drop]
theorem ybuz {w:World} {r:Rdr} {N:Nat->List Int} {k:Nat} (h:RdAt w r N k) (nd:Nat->Int) (A:Array Value) (HAS:Hid (A.size=48)) (_HA1:Hid (A.all (·.oneCell')=true)) (HAN:Hid (∀ j,j<16->A[j]? = some (.int .i64 (nd j)))) (hok:qlz N nd k):
  Calls Tryz.prog 71 #[.iface r.T r.u,.agg A] w
   (fun e w'=>∃ v,e=.returned (.tuple #[v,.int .i64 0])/\ybeb w v (qfk N nd 32) w'):=by
 have q1:=h.n1
 have q2:=h.m1
 have q3:=h.c1
 have HR:=Lib.hid h
 have HOK:=Lib.hid hok
 clear h hok
 obtain⟨i0,hi0,hz0,hz1,hz2⟩:=info_parts ybwg
 have HI0:=Lib.hid hi0
 have HIZ:=Lib.hid hz0
 have HI1:=Lib.hid hz1
 have HI2:=Lib.hid hz2
 clear hi0 hz0 hz1 hz2
 obtain⟨NN,HNN⟩:∃ N:Array Value,Hid (N=(A.toList.take 16).toArray):=⟨_,rfl⟩
 have HNS:Hid (NN.size=16):=by show _=_;rw[HNN.out];have:=HAS.out;simp;omega
 have HNP:Hid (∀ j,j<NN.size->A[0+j]? = NN[j]?):=fun j hj=>by
  rw[HNS.out]at hj
  rw[HNN.out,Nat.zero_add,<-Array.getElem?_toList,List.getElem?_toArray,List.getElem?_take,if_pos hj]
 go_enter Tryz.func71,Tryz.ntmps71
 go_wp2_with (refine qar (by kernel_rfl) 74 (.tmp 14) rfl w.heap.size 0 rfl 78 A NN (0,0) _ (heap_alloc_new _ _) HNP.out qjw rfl (by rw[HNS.out];exact qze) ?_)
 have HB0:Hid (Below w.heap.size w (w.alloc (.cells A 78))):=(Below.refl _ _).alloc (Nat.le_refl _) _
 have HS0:Hid ((w.alloc (.cells A 78)).heap.size=w.heap.size+1):=by show _=_;simp
 generalize w.alloc (.cells A 78)=w1 at *
 go_loopw [6,16] (fun o i wr=>∃ (j:Nat) (E:List Nd),j<=16/\i=.int .i64 j/\Hid (wr.ownsRow (w.heap.size+1) 103 8 o (2*j) (qax E))/\Hid (qbo (qob w o) wr E (qfk N nd (2*j)))/\Hid (Below w1.heap.size w1 wr)) (fun _ i _=>16 - (intOf i).toNat)
 case atStart=>exact⟨0,[],Nat.zero_le _,rfl,World.ownsRow_nil _ _ _ _,qbo.nil _ _,Below.refl _ _⟩
 case round=>
  obtain⟨j,E,hj,rfl,HO,HE,HB⟩:=hrel
  by_cases hlt:j<16
  ·have hlt2:(j:Int)<16:=by omega
   obtain⟨y,Hy⟩:∃ y:Nat,Hid (nd j=(y:Int)):=⟨(nd j).toNat,by show _=_;have:=HOK.out.1 j hlt;omega⟩
   have hyk:y<k:=by have:=HOK.out.1 j hlt;have:=Hy.out;omega
   have hidx:∀ W:World,(Instr.index 74 (.agg NN) (.int .i64 (j:Int))).run Tryz.prog W=.ok (.int .i64 (y:Int)) W:=fun W=>
    qey _ _ 16 .i64 NN .i64 (j:Int) qjw intT intS (by omega) (by omega) _ (by
     have h1:=HNP.out j (by rw[HNS.out];exact hlt)
     rw[Int.toNat_natCast,<-h1,Nat.zero_add,HAN.out j hlt,Hy.out]) W
   have HRD:=Lib.hid (HR.out.read wr (Below.step HB0.out HB.out) y hyk)
   have HNL:=Lib.hid (HR.out.len y hyk)
   have HNB:=Lib.hid (HR.out.byte y hyk)
   go_wp2_with fail
   refine HRD.out.mono ?_
   rintro e w3 ⟨v3,rfl,hv3⟩
   obtain⟨g3,cap3,cur3,rfl,hcap3,hh3,ht3,hb3⟩:=hv3
   rw[HNL.out]at hcap3 ht3 ⊢
   have HH3:=Lib.hid hh3
   have HT3:=Lib.hid ht3
   have HB3:=Lib.hid hb3
   have HBr3:Hid (Below w1.heap.size w1 w3):=Below.step HB.out hb3
   have HO3:=Lib.hid (qap HO.out hb3)
   have HE3:=Lib.hid (HE.out.keep (qab.of_below hb3))
   have hcp3:=hcap3.2
   clear hh3 ht3 hb3 HO HE HRD hidx
   go_wp2
   go_loopw [6,27] (fun o i wq=>∃ (a:Nat) (E:List Nd),a<=2/\i=.int .i64 a/\Hid (wq.ownsRow (w.heap.size+1) 103 8 o (2*j+a) (qax E))/\Hid (qbo (qob w o) wq E (qfk N nd (2*j+a)))/\Hid (Below w1.heap.size w1 wq)/\Hid (wq.heap[g3]? = some (.cells cur3 5 (0,0)))) (fun _ i _=>2 - (intOf i).toNat)
   case atStart=>exact⟨0,E,Nat.zero_le _,rfl,HO3.out,HE3.out,HBr3.out,HH3.out⟩
   case round=>
    obtain⟨a,E2,ha,rfl,HO,HE,HBq,HHq⟩:=hrel
    by_cases hat:a<2
    ·have hat2:(a:Int)<2:=by omega
     have HCH:Hid (qhj N nd (2*j+a)=half (N y) a):=by show _=_;unfold qhj;rw[show (2*j+a) / 2=j by omega,show (2*j+a) % 2=a by omega,Hy.out];rfl
     have HHL:Hid ((half (N y) a).length=32):=by show _=_;unfold half;rw[List.length_take,List.length_drop,HNL.out];omega
     have HG:Hid (qmr (half (N y) a)):=by show _;rw[<-HCH.out];exact HOK.out.2 (2*j+a) (by omega)
     have HHB:Hid (∀ x ∈ half (N y) a,0<=x/\x<=255):=fun x hx=>HNB.out x (List.mem_of_mem_drop (List.mem_of_mem_take hx))
     have HSL:=Lib.hid (ybjq N nd (2*j+a))
     have i1:IntKind.i64.wrap (32*(a:Int))=32*(a:Int):=IntWalk.i64_in _ (by omega)
     have i2:IntKind.i64.wrap ((a:Int)+1)=(a:Int)+1:=IntWalk.i64_in _ (by omega)
     have i3:IntKind.i64.wrap (32*((a:Int)+1))=32*((a:Int)+1):=IntWalk.i64_in _ (by omega)
     have HBA:=Lib.hid (fun c=>ybhu (cap:=c) HNL.out HHq.out HT3.out a hat)
     go_wp2_with fail
     rw[show 32*(a+1) - 32*a=32 by omega]
     refine (ybdu _ (half (N y) a) wr (HBA.out _) (by rw[HHL.out];omega) HHB.out ⟨_,_,by rw[HHL.out],by rw[HHL.out];omega⟩).mono ?_
     rintro e w5 (⟨_,v5,rfl,hI,hb5⟩ | ⟨hng,_⟩)
     case inr=>exact absurd HG.out hng
     obtain⟨rp,rc,hre⟩:=ybhz hI.1 _ rfl
     obtain⟨x0,x1,x2,x3,x4,x5,x6,P,HX⟩:∃ x0 x1 x2 x3 x4 x5 x6 P,Hid (pnOf (half (N y) a)=⟨x0,x1,x2,x3,x4,x5,x6,P⟩):=⟨_,_,_,_,_,_,_,_,rfl⟩
     have HX2:=HX.out
     unfold pnOf at HX2
     injection HX2 with e0 e1 e2 e3 e4 e5 e6 e7
     rw[e0,e1,e2,e3,e4,e5,e6]
     rw[e7]at hI hre
     obtain⟨n,HN⟩:∃ n,Hid (P.length=n):=⟨_,rfl⟩
     rw[HN.out]at hre
     subst hre
     have HI:=Lib.hid hI
     have HB5:=Lib.hid hb5
     have HO5:=Lib.hid (qap HO.out hb5)
     have HE5:=Lib.hid (HE.out.keep (qab.of_below hb5))
     have HND:Hid (NdIs (qob w u6) w5 ⟨x0,x1,x2,x3,x4,x5,x6,rp,n,rc⟩ (pnOf (half (N y) a))):=by
      rw[HX.out]
      exact⟨rfl,rfl,rfl,rfl,rfl,rfl,rfl,ybyr hI fun i _ hi=>by
       rcases hi with hi | hi
       ·have h1:=HB0.out.size;have h3:=HBq.out.size;omega
       ·exact (HO.out.lt i hi).2⟩
     clear hI hb5 e0 e1 e2 e3 e4 e5 e6 e7
     obtain⟨nE,HnE⟩:∃ n,Hid (E2.length=n):=⟨_,rfl⟩
     have hnE:nE=2*j+a:=by rw[<-HnE.out,HE5.out.1,qta]
     subst hnE
     have HSX:Hid (w.heap.size+1<=w5.heap.size):=Nat.le_trans (Nat.le_of_eq HS0.out.symm) (Nat.le_trans HBq.out.size HB5.out.size)
     have HK2:Hid (Below w5.heap.size w5 ((w5.alloc (.cells #[.int .i64 x0,.int .i64 x1,.int .i64 x2,.int .i64 x3,.int .i64 x4,.int .i64 x5,.int .i64 x6,.slice rp n rc] 103)).alloc (.cells #[.int .i64 x0,.int .i64 x1,.int .i64 x2,.int .i64 x3,.int .i64 x4,.int .i64 x5,.int .i64 x6,.slice rp n rc] 103))):=((Below.refl _ _).alloc (Nat.le_refl _) _).alloc (by simp) _
     have HOA:=Lib.hid (qap HO5.out HK2.out)
     have HNW:Hid (((w5.alloc (.cells #[.int .i64 x0,.int .i64 x1,.int .i64 x2,.int .i64 x3,.int .i64 x4,.int .i64 x5,.int .i64 x6,.slice rp n rc] 103)).alloc (.cells #[.int .i64 x0,.int .i64 x1,.int .i64 x2,.int .i64 x3,.int .i64 x4,.int .i64 x5,.int .i64 x6,.slice rp n rc] 103)).heap[w5.heap.size+1]? = some (.cells #[.int .i64 x0,.int .i64 x1,.int .i64 x2,.int .i64 x3,.int .i64 x4,.int .i64 x5,.int .i64 x6,.slice rp n rc] 103 (0,0))):=qcm _ _ _ (by simp)
     go_wp2_with (at_builtin;refine wpList_append_own_at _ rfl _ _ 92 rfl (w.heap.size+1) 103 i0 (.agg #[.int .i64 0,.int .i64 0,.int .i64 0,.int .i64 0,.int .i64 0,.int .i64 0,.int .i64 0,.slice none 0 0]) 8 80 ndsT HI0.out HIZ.out HI1.out HI2.out rfl (by decide) _ _ _ rfl HOA.out ⟨w5.heap.size+1,0,none⟩ 1 1 [.int .i64 x0,.int .i64 x1,.int .i64 x2,.int .i64 x3,.int .i64 x4,.int .i64 x5,.int .i64 x6,.slice rp n rc] rfl rfl (World.news_of_block (cs:=#[.int .i64 x0,.int .i64 x1,.int .i64 x2,.int .i64 x3,.int .i64 x4,.int .i64 x5,.int .i64 x6,.slice rp n rc]) (t:=103) (fr:=(0,0)) HNW.out) (by simp[Value.oneCell']) (by unfold maxLen;omega) (by omega) (by have:=HSX.out;simp;omega) ?_;intro v6 w6 hown hgrow _ hloc)
     have HG6:Hid (∀ i,i<w5.heap.size->qob w v6 i->qob w u6 i):=fun i hi hg=>by
      rcases hg with hg | hg
      ·exact Or.inl hg
      ·rcases hloc with hl | hl
       ·exact Or.inr (hl ▸ hg)
       ·rw[hl]at hg
        injection hg with hg
        have:w5.heap.size<=i:=by rw[<-hg];simp;omega
        omega
     have HKG:Hid (qab (fun i=>qob w u6 i\/qob w v6 i) w5 w6):=((qab.of_below HK2.out).step (qab.grown hgrow (fun q hq=>Or.inl (Or.inr hq))))
     have HE6:Hid (qbo (qob w v6) w6 (E2++[⟨x0,x1,x2,x3,x4,x5,x6,rp,n,rc⟩]) (qfk N nd (2*j+(a+1)))):=by
      have h1:=(HE5.out.snoc HND.out).grow (G':=fun i=>qob w u6 i\/qob w v6 i) (fun i hi hg=>hg.elim id (HG6.out i hi))
      have h2:=(h1.keep HKG.out).grow (G':=qob w v6) (fun i _ hg=>Or.inr hg)
      show qbo _ _ _ (qfk N nd (2*j+a+1))
      rw[HSL.out,HCH.out]
      exact h2
     have HO6:Hid (w6.ownsRow (w.heap.size+1) 103 8 v6 (2*j+(a+1)) (qax (E2++[⟨x0,x1,x2,x3,x4,x5,x6,rp,n,rc⟩]))):=by
      rw[ybcs]
      exact hown
     have HB6:Hid (Below w1.heap.size w1 w6):=Below.grown (Below.step (Below.step HBq.out HB5.out) HK2.out) hgrow (by have h1:=HBq.out.size;have h2:=HB5.out.size;simp;omega) (fun q hq=>by rw[HS0.out];exact (HO.out.lt q hq).1)
     have HH6:Hid (w6.heap[g3]? = some (.cells cur3 5 (0,0))):=by
      have h1:=qaa HK2.out (qaa HB5.out HHq.out)
      exact (hgrow.block g3 (qac h1) (fun hc=>qds HOA.out h1 (by decide) hc.symm)).trans h1
     clear hown hgrow hloc
     go_roundw
     case rel=>exact⟨a+1,_,by omega,by go_num,HO6,HE6,HB6,HH6⟩
     case measure=>simp[intOf];omega
    ·obtain rfl:a=2:=by omega
     have HO2:Hid (wr.ownsRow (w.heap.size+1) 103 8 u6 (2*(j+1)) (qax E2)):=HO.out
     have HE2:Hid (qbo (qob w u6) wr E2 (qfk N nd (2*(j+1)))):=HE.out
     have hat2:¬ ((2:Nat):Int)<2:=by omega
     go_wp2
     go_roundw
     case rel=>exact⟨j+1,E2,by omega,by go_num,HO2,HE2,HBq⟩
     case measure=>simp[intOf];omega
  ·obtain rfl:j=16:=by omega
   have hlt2:¬ ((16:Nat):Int)<16:=by omega
   go_wp2
   go_ret2
   exact⟨_,rfl,E,by rw[qta];exact HO.out,HE.out,Below.step HB0.out HB.out⟩
theorem ybel (f:Fo) (k j:Nat) (hj:j<16):(encT f k)[j]? = some (.int .i64 (f.nd k j)):=by rw[qmh f k j (by omega)];unfold qdb;rw[if_pos hj]
theorem ybgf {w:World} {r:Rdr} {N:Nat->List Int} {k:Nat} (h:RdAt w r N k) (f:Fo) (t:Nat) (hok:qlz N (f.nd t) k):
  Calls Tryz.prog 71 #[.iface r.T r.u,.agg (encT f t)] w
   (fun e w'=>∃ v,e=.returned (.tuple #[v,.int .i64 0])/\ybeb w v (qfk N (f.nd t) 32) w'):=
 ybuz h (f.nd t) _ (qgs f t) (ybem f t) (fun j hj=>ybel f t j hj) hok
end Go.Proofs.YtpoglnpjadmbpaaGreatDoor
