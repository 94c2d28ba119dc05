/- Part of the proofs of FsLinks: the texts DirWalk. -/
import Derived.Test.YtpoglnpjadmbpaaGreatDoorKA22
import Derived.Handy
set_option maxHeartbeats 16000000
set_option maxRecDepth 100000
namespace Go.Proofs.YtpoglnpjadmbpaaGreatDoor
open Go.RowKit
theorem ybnz {l D:List Int} {o:Nat} (h:o+D.length<=l.length):(over l o D).length=l.length:=qor h
theorem ybvh (L:List Int) (i:Nat) (x:Int):(u8s L).toArray.setIfInBounds i (.int .u8 x)=(u8s (L.set i x)).toArray:=by
 unfold u8s
 rw[List.map_set]
 simp
section
variable {P : Program}
theorem qss (w:World) (dT sT ty elem:TypeId) (hu:P.underlying dT=some (.slice elem)) (hsz:(P.info? elem).map (·.size)=some 1)
  (g o dLen dCap:Nat) (sv:ByteArray) (cur:List Int) (t:TypeId) (hg:w.heap[g]? = some (.cells (u8s cur).toArray t (0,0))) (hfit:o+dLen<=cur.length) (hs:sv.size<=dLen):
  (Builtin.copy_ #[dT,sT] ty #[.slice (some ⟨g,o,none⟩) dLen dCap,.string sv]).run P w=.ok (goInt (Nat.min sv.size dLen)) (w.setRow g (u8s (over cur o (bI sv))).toArray):=by
 have hDl:(bI sv).length<=dLen:=by rw[qtx];exact hs
 have hst:=run_storeCells_at P g o t (u8s (bI sv)) 0 (u8s cur).toArray w hg (by simp[qal];omega) (qga _)
 have e:((u8s cur).toArray.toList.take (o+0)++u8s (bI sv)++(u8s cur).toArray.toList.drop (o+0+(u8s (bI sv)).length)).toArray=(u8s (over cur o (bI sv))).toArray:=by
  unfold over
  rw[qbj,qbj,qdf,qdq,qal,List.append_assoc]
  rfl
 rw[e]at hst
 have htk:((sv.data.toList.map fun b:UInt8=>Value.int IntKind.u8 (b.toNat:Int)).take (Nat.min sv.size dLen))=u8s (bI sv):=by
  rw[show u8s (bI sv)=sv.data.toList.map fun b:UInt8=>Value.int IntKind.u8 (b.toNat:Int) by simp[u8s,bI]]
  refine List.take_of_length_le ?_
  have:(sv.data.toList.map fun b:UInt8=>Value.int IntKind.u8 (b.toNat:Int)).length=sv.size:=by rw[List.length_map];rfl
  rw[this]
  show sv.size<=min sv.size dLen
  omega
 cases hq:P.info? elem with
 | none=>simp[hq]at hsz
 | some i=>
  have hi:i.size=1:=by simpa[hq]using hsz
  simp[Builtin.copy_,run_underlying hu,Builtin.lenOf,Builtin.firstCells,sizeOf,typeInfo,hq]
  rw[htk,hst]
  simp[Result.andThen]
end
theorem ybqi {α β:Type}:∀ (L M:List α) (T:List β),(L++M).zip T=L.zip T++M.zip (T.drop L.length)
 | [],M,T=>by simp
 | a :: L,M,[]=>by simp
 | a :: L,M,b :: T=>by simp[ybqi L M T]
theorem ybsy (D:List Int) (q:Nat) (x:En) (R:List Nat) (T:List En):layF D ((q :: R).zip (x :: T))=layF (putE D (q,x)) (R.zip T):=rfl
theorem ybpu : Tryz.prog.underlying 38=some (.slice 5):=by kernel_rfl
theorem ybvf : (Tryz.prog.info? 5).map (·.size)=some 1:=by kernel_rfl
structure qle (gl gy go gn gb : Nat) (p : Option Addr) (N cp M capb : Nat) (S : List En) (D : List Int) (q : Nat) (w : World) : Prop where
 l:w.heap[gl]? = some (.cells #[.slice p N cp] 28 (0,0))
 s:S.length=N
 own:w.ownsRow 0 100 2 (.slice p N cp) N (ents S)
 y:w.heap[gy]? = some (.cells #[.func (.func 122) #[] #[.pointer (some ⟨gl,0,none⟩),.pointer (some ⟨gy,0,none⟩),.pointer (some ⟨go,0,none⟩),.pointer (some ⟨gn,0,none⟩)]] 121 (0,0))
 o:w.heap[go]? = some (.cells #[.slice (some ⟨gb,0,none⟩) M capb] 38 (0,0))
 b:w.heap[gb]? = some (.cells (u8s D).toArray 5 (0,0))
 n:w.heap[gn]? = some (.cells #[.int .i64 (q:Int)] 3 (0,0))
 d:D.length=M
 c:M<=capb
 m:M=16*N
section
variable {gl gy go gn gb N cp M capb q : Nat} {p : Option Addr} {S : List En} {D : List Int} {w w' : World}
def LayB (gb gn:Nat) (i:Nat):Prop:=i=gb\/i=gn
theorem qle.keep {F:Nat->Prop} (h:qle gl gy go gn gb p N cp M capb S D q w) (hk:qab F w w') (hF:∀ i,F i->LayB gb gn i) {D':List Int} {q':Nat} (hb:w'.heap[gb]? = some (.cells (u8s D').toArray 5 (0,0))) (hn:w'.heap[gn]? = some (.cells #[.int .i64 (q':Int)] 3 (0,0))) (hd:D'.length=M):qle gl gy go gn gb p N cp M capb S D' q' w':=by
 have k:∀ i,i ≠ gb->i ≠ gn->i<w.heap.size->w'.heap[i]? = w.heap[i]? :=fun i h1 h2 h3=>hk.block i h3 fun hc=>(hF i hc).elim h1 h2
 refine⟨(k gl (qam h.l h.b (by decide)) (qam h.l h.n (by decide)) (qac h.l)).trans h.l,h.s,qci h.own fun b hb=>?_,
  (k gy (qam h.y h.b (by decide)) (qam h.y h.n (by decide)) (qac h.y)).trans h.y,(k go (qam h.o h.b (by decide)) (qam h.o h.n (by decide)) (qac h.o)).trans h.o,hb,hn,hd,h.c,h.m⟩
 have h1:=qds h.own h.b (by decide)
 have h2:=qds h.own h.n (by decide)
 rw[hb]at h1 h2
 refine k b (fun e=>h1 (by rw[e])) (fun e=>h2 (by rw[e])) ?_
 obtain⟨_,⟨hv,_⟩ | ⟨g,cap,cur,hv,_,hh,_⟩⟩:=h.own
 ·rw[hv]at hb;simp[Value.ownBlock]at hb
 ·rw[hv]at hb
  have:g=b:=by simpa[Value.ownBlock]using hb
  rw[<-this];exact qac hh
theorem qle.drew (h:qle gl gy go gn gb p N cp M capb S D q w):qle gl gy go gn gb p N cp M capb S D q w.drew:=⟨h.l,h.s,h.own,h.y,h.o,h.b,h.n,h.d,h.c,h.m⟩
theorem qle.cells (h:qle gl gy go gn gb p N cp M capb S D q w):w.cell? ⟨gl,0,none⟩=some (.slice p N cp)/\w.cell? ⟨gy,0,none⟩=some (.func (.func 122) #[] #[.pointer (some ⟨gl,0,none⟩),.pointer (some ⟨gy,0,none⟩),.pointer (some ⟨go,0,none⟩),.pointer (some ⟨gn,0,none⟩)])/\w.cell? ⟨go,0,none⟩=some (.slice (some ⟨gb,0,none⟩) M capb)/\w.cell? ⟨gn,0,none⟩=some (.int .i64 (q:Int))/\w.frozen? ⟨gn,0,none⟩=false:=
 ⟨cell_of_row _ _ _ _ _ _ h.l,cell_of_row _ _ _ _ _ _ h.y,cell_of_row _ _ _ _ _ _ h.o,cell_of_row _ _ _ _ _ _ h.n,frozen_of_row _ _ _ _ _ h.n⟩
theorem qle.entry (h:qle gl gy go gn gb p N cp M capb S D q w) (hq:q<N):∃ (g o:Nat) (hq':q<S.length),p=some ⟨g,o,none⟩/\w.cell? ⟨g,o+q*2,none⟩=some (.string S[q].1)/\w.cell? ⟨g,o+(q*2+1),none⟩=some (.int .i64 S[q].2):=by
 have he:qdd w (.slice p N cp) S:=by
  have:=qai.of_owns h.own
  unfold qdd
  rw[h.s]
  exact this
 obtain⟨p',cp',hv,hp⟩:=qgt he N h.s.symm
 injection hv with e1 _ _
 subst e1
 obtain⟨g,o,h1,_,h3⟩:=hp (by omega)
 exact⟨g,o,by rw[h.s];exact hq,h1,h3 q _⟩
end
def qxm (gl gy go gn gb:Nat) (p:Option Addr) (N cp M capb:Nat) (S:List En) (D:List Int) (q at_:Nat) (w:World) (e:Ending) (w':World):Prop:=
 e=.returned (.tuple #[])/\qle gl gy go gn gb p N cp M capb S (layF D ((ino N at_).zip (S.drop q))) (q+(ino N at_).length) w'/\qab (LayB gb gn) w w'
theorem ybsx (gl gy go gn gb:Nat) (p:Option Addr) (N cp M capb:Nat) (S:List En) (hS:∀ x ∈ S,x.1.size<=14/\0<=x.2/\x.2<=255) (hN:N<=32):∀ (f at_ q:Nat) (D:List Int) (w:World),N<=at_+f->q+(ino N at_).length<=N->qle gl gy go gn gb p N cp M capb S D q w->at_<=1000 ->
  Calls Tryz.prog 122 #[.int .i64 (at_:Int),.pointer (some ⟨gl,0,none⟩),.pointer (some ⟨gy,0,none⟩),.pointer (some ⟨go,0,none⟩),.pointer (some ⟨gn,0,none⟩)] w (qxm gl gy go gn gb p N cp M capb S D q at_ w):=by
 have HS:=Lib.hid hS
 clear hS
 have base:∀ (at_ q:Nat) (D:List Int) (w:World),N<=at_->qle gl gy go gn gb p N cp M capb S D q w->Calls Tryz.prog 122 #[.int .i64 (at_:Int),.pointer (some ⟨gl,0,none⟩),.pointer (some ⟨gy,0,none⟩),.pointer (some ⟨go,0,none⟩),.pointer (some ⟨gn,0,none⟩)] w (qxm gl gy go gn gb p N cp M capb S D q at_ w):=by
  intro at_ q D w hat h
  obtain⟨c1,_,_,_,_⟩:=h.cells
  have HL:=Lib.hid h
  have hle:(N:Int)<=(at_:Int):=by omega
  have HE:Hid (qxm gl gy go gn gb p N cp M capb S D q at_ w (.returned (.tuple #[])) w):=by
   refine⟨rfl,?_,qab.refl _ _⟩
   rw[ybcj hat]
   exact h
  clear h
  go_enter Tryz.func122,Tryz.ntmps122
  go_wp2
  go_returns
  exact HE.out
 have HBASE:=Lib.hid base
 clear base
 intro f
 induction f with
 | zero=>exact fun at_ q D w h1 _ h3 _=>HBASE.out at_ q D w (by omega) h3
 | succ f ih=>
  intro at_ q D w h1 h2 h3 h4
  by_cases hat:N<=at_
  ·exact HBASE.out at_ q D w hat h3
  have hlt:at_<N:=by omega
  have hino:=qwh hlt
  obtain⟨L,HL⟩:∃ L,Hid (ino N (2*at_+1)=L):=⟨_,rfl⟩
  obtain⟨R,HR⟩:∃ R,Hid (ino N (2*at_+2)=R):=⟨_,rfl⟩
  rw[HL.out,HR.out]at hino
  obtain⟨a1,Ha1⟩:∃ a,Hid (2*at_+1=a):=⟨_,rfl⟩
  obtain⟨a2,Ha2⟩:∃ a,Hid (2*at_+2=a):=⟨_,rfl⟩
  obtain⟨q1,Hq1⟩:∃ a,Hid (q+L.length=a):=⟨_,rfl⟩
  obtain⟨q2,Hq2⟩:∃ a,Hid (q1+1=a):=⟨_,rfl⟩
  rw[Ha1.out]at HL
  rw[Ha2.out]at HR
  have hlen:(ino N at_).length=L.length+(R.length+1):=by rw[hino];simp
  rw[hlen]at h2
  have hq1N:q1<N:=by have:=Hq1.out;omega
  have hq2N:q2+R.length<=N:=by have:=Hq1.out;have:=Hq2.out;omega
  have i1:=ih a1 q D w (by have:=Ha1.out;omega) (by rw[HL.out];omega) h3 (by have:=Ha1.out;omega)
  have I1:=Lib.hid i1
  have I2:Hid (∀ (D:List Int) (w:World),qle gl gy go gn gb p N cp M capb S D q2 w->Calls Tryz.prog 122 #[.int .i64 (a2:Int),.pointer (some ⟨gl,0,none⟩),.pointer (some ⟨gy,0,none⟩),.pointer (some ⟨go,0,none⟩),.pointer (some ⟨gn,0,none⟩)] w (qxm gl gy go gn gb p N cp M capb S D q2 a2 w)):=fun D w hw=>ih a2 q2 D w (by have:=Ha2.out;omega) (by rw[HR.out];omega) hw (by have:=Ha2.out;omega)
  obtain⟨c1,c2,c3,c4,c5⟩:=h3.cells
  have w1:IntKind.i64.wrap (2*(at_:Int))=2*(at_:Int):=IntWalk.i64_in _ (by omega)
  have w2:IntKind.i64.wrap (2*(at_:Int)+1)=(a1:Int):=by rw[IntWalk.i64_in _ (by omega)];have:=Ha1.out;omega
  have w3:IntKind.i64.wrap (2*(at_:Int)+2)=(a2:Int):=by rw[IntWalk.i64_in _ (by omega)];have:=Ha2.out;omega
  obtain⟨b16,hb16⟩:∃ b,16*at_=b:=⟨_,rfl⟩
  obtain⟨b30,hb30⟩:∃ b,b16+14=b:=⟨_,rfl⟩
  have w4:IntKind.i64.wrap (16*(at_:Int))=(b16:Int):=by rw[IntWalk.i64_in _ (by omega)];omega
  have w5:IntKind.i64.wrap ((b16:Int)+14)=(b30:Int):=by rw[IntWalk.i64_in _ (by omega)];omega
  have w6:IntKind.i64.wrap ((q1:Int)+1)=(q2:Int):=by rw[IntWalk.i64_in _ (by omega)];have:=Hq2.out;omega
  have hng:¬ (N:Int)<=(at_:Int):=by omega
  clear ih i1 h1 h4 h3
  go_enter Tryz.func122,Tryz.ntmps122
  go_wp2_with fail
  refine I1.out.mono ?_
  rintro e wA ⟨rfl,hA,hkA⟩
  rw[HL.out,Hq1.out]at hA
  obtain⟨d1,d2,d3,d4,d5⟩:=hA.cells
  obtain⟨ge,oe,hqS,hp,e1,e2⟩:=hA.entry hq1N
  subst hp
  obtain⟨D1,HD1⟩:∃ E,Hid (layF D (L.zip (S.drop q))=E):=⟨_,rfl⟩
  rw[HD1.out]at hA
  obtain⟨x1,Hx1⟩:∃ x,Hid (S[q1].1=x):=⟨S[q1].1,rfl⟩
  obtain⟨x2,Hx2⟩:∃ x,Hid (S[q1].2=x):=⟨S[q1].2,rfl⟩
  rw[Hx1.out]at e1
  rw[Hx2.out]at e2
  have hx:=HS.out S[q1] (List.getElem_mem hqS)
  rw[Hx1.out,Hx2.out]at hx
  obtain⟨hx1,hx2,hx3⟩:=hx
  have e3:=e2
  rw[<-Nat.add_assoc]at e3
  have HA:=Lib.hid hA
  have HKA:=Lib.hid hkA
  have HAb:=Lib.hid hA.b
  have hAd:D1.length=M:=hA.d
  have hcap:=hA.c
  have hM:=hA.m
  have k1:(b16:Int)<=(M:Int):=by omega
  have k2:(M:Int)<=(capb:Int):=by omega
  have kne:¬ capb=b16:=by omega
  have kne':¬ b16=capb:=by omega
  have HM:=Lib.hid hM
  clear hM
  have kq:(q1:Int)<(N:Int):=by omega
  clear hA hkA c1 c2 c3 c4 c5
  go_wp2
  go_still_tail 9,(by kernel_rfl)
  go_wp2_with fail
  have hcur:=qss (P:=Tryz.prog) wA.drew 38 9 3 5 ybpu ybvf gb b16 (M - b16) (capb - b16) x1 D1 5 HAb.out (by rw[hAd];omega) (by have:=HM.out;omega)
  obtain⟨D2,HD2⟩:∃ E,Hid (over D1 b16 (bI x1)=E):=⟨_,rfl⟩
  rw[HD2.out]at hcur
  rw[hcur]
  have kset:qab (LayB gb gn) wA (wA.drew.setRow gb (u8s D2).toArray):=(qab.refl _ _).drew.step (qab.setRow (Or.inl rfl) _)
  have hrow:(wA.drew.setRow gb (u8s D2).toArray).heap[gb]? = some (.cells (u8s D2).toArray 5 (0,0)):=setRow_heap _ _ _ _ _ _ HAb.out
  have hnum:(wA.drew.setRow gb (u8s D2).toArray).heap[gn]? = some (.cells #[.int .i64 (q1:Int)] 3 (0,0)):=(setRow_other _ _ _ _ (qam HA.out.n HA.out.b (by decide))).trans HA.out.n
  have hov:D2.length=M:=by rw[<-HD2.out,ybnz (by rw[qtx,hAd];have:=HM.out;omega)];exact hAd
  have hB:=HA.out.keep kset (fun _ h=>h) hrow hnum hov
  have HKB:=Lib.hid (HKA.out.step kset)
  have hDl:=hov
  have HB:=Lib.hid hB
  obtain⟨f1,f2,f3,f4,f5⟩:=hB.cells
  have hg5:(wA.drew.setRow gb (u8s D2).toArray).cell? ⟨ge,oe+q1*2+1,none⟩=some (.int .i64 x2):=by
   obtain⟨g',o',h1,h2,_,h4⟩:=hB.entry hq1N
   injection h2 with h2
   injection h2 with h2 h3 _
   rw[<-h2,<-h3,<-Nat.add_assoc]at h4
   rw[h4,Hx2.out]
  clear hcur kset hrow hnum hov hB HA HKA HAb hAd e1 e2 e3 d1 d2 d3 d4 d5
  generalize wA.drew.setRow gb (u8s D2).toArray=wB at *
  have k4:b30<M:=by have:=HM.out;omega
  have hc14:∃ u,wB.cell? ⟨gb,b30,none⟩=some u:=by
   have h1:(u8s D2).toArray[b30]? = some (.int .u8 (D2[b30]'(by omega))):=by
    rw[<-Array.getElem?_toList];exact qcj D2 b30 (by omega)
   exact⟨_,by rw[<-h1];exact cell_of_row _ _ _ _ _ _ HB.out.b⟩
  obtain⟨u,hc14⟩:=hc14
  have hf14:wB.frozen? ⟨gb,b30,none⟩=false:=frozen_of_row _ _ _ _ _ HB.out.b
  have kb:(b30:Int)<(M:Int):=by omega
  have wu:IntKind.u8.wrap x2=x2:=IntWalk.u8_in _ (by omega)
  obtain⟨D3,HD3⟩:∃ E,Hid (putE D1 (at_,S[q1])=E):=⟨putE D1 (at_,S[q1]),rfl⟩
  obtain⟨wC,HWC⟩:∃ W,Hid ((wB.setCell ⟨gb,b30,none⟩ (.int .u8 x2)).setCell ⟨gn,0,none⟩ (.int .i64 (q2:Int))=W):=⟨_,rfl⟩
  have hbC:wC.heap[gb]? = some (.cells (u8s D3).toArray 5 (0,0)):=by
   have h1:(wB.setCell ⟨gb,b30,none⟩ (.int .u8 x2)).heap[gb]? = some (.cells (u8s D3).toArray 5 (0,0)):=by
    rw[setCell_eq_setRow _ _ _ _ _ _ _ HB.out.b,setRow_heap _ _ _ _ _ _ HB.out.b,ybvh,<-HD3.out,<-HD2.out,<-hb30,<-hb16,<-Hx1.out,<-Hx2.out]
    rfl
   rw[<-HWC.out,Below.heap_setCell _ _ _ _ (qam HB.out.b HB.out.n (by decide))]
   exact h1
  have hnC:wC.heap[gn]? = some (.cells #[.int .i64 (q2:Int)] 3 (0,0)):=by
   have h1:(wB.setCell ⟨gb,b30,none⟩ (.int .u8 x2)).heap[gn]? = some (.cells #[.int .i64 (q1:Int)] 3 (0,0)):=by
    rw[Below.heap_setCell _ _ _ _ (qam HB.out.n HB.out.b (by decide))]
    exact HB.out.n
   rw[<-HWC.out,setCell_eq_setRow _ _ _ _ _ _ _ h1,setRow_heap _ _ _ _ _ _ h1]
   rfl
  have kset:qab (LayB gb gn) wB wC:=by
   rw[<-HWC.out]
   exact ((qab.refl _ _).step (qab.setCell (Or.inl rfl) _)).step (qab.setCell (Or.inr rfl) _)
  have hD3l:D3.length=M:=by
   rw[<-HD3.out]
   unfold putE
   rw[List.length_set]
   show (over D1 (16*at_) (bI S[q1].1)).length=M
   rw[hb16,Hx1.out,HD2.out]
   exact hDl
  have hC:=HB.out.keep kset (fun _ h=>h) hbC hnC hD3l
  have HKC:=Lib.hid (HKB.out.step kset)
  obtain⟨_,g2,_,_,_⟩:=hC.cells
  rw[<-HWC.out]at g2
  have HC:=Lib.hid hC.drew
  clear hC kset hbC hnC hD3l
  go_wp2
  go_still_tail 11,(by kernel_rfl)
  go_wp2_with fail
  rw[HWC.out]
  refine (I2.out _ _ HC.out).mono ?_
  rintro e wD ⟨rfl,hD,hkD⟩
  have HRES:Hid (qxm gl gy go gn gb (some ⟨ge,oe,none⟩) N cp M capb S D q at_ w (.returned (.tuple #[])) wD):=by
   refine⟨rfl,?_,HKC.out.drew.step hkD⟩
   have e1:layF D ((ino N at_).zip (S.drop q))=layF D3 (R.zip (S.drop q2)):=by
    rw[hino,ybqi,ybcm,HD1.out,List.drop_drop,Hq1.out,List.drop_eq_getElem_cons hqS,ybsy,HD3.out,Hq2.out]
   have e2:q+(ino N at_).length=q2+R.length:=by
    rw[hlen];have:=Hq1.out;have:=Hq2.out;omega
   rw[e1,e2]
   rw[HR.out]at hD
   exact hD
  clear hD hkD
  go_wp2
  go_returns
  exact HRES.out
end Go.Proofs.YtpoglnpjadmbpaaGreatDoor
