/- Part of the proofs of FsLinks: the texts DirLayA, DirRow, DirList1, DirList. -/
import Derived.Test.YtpoglnpjadmbpaaGreatDoorKA7
import Derived.Test.YtpoglnpjadmbpaaGreatDoorKA24
import Derived.Deep.OwnRows
import Derived.Laws.EntriesVeiled
import Derived.Deep.RegionHeldLaw
import Derived.Lib.SlBytesRow
import Derived.Deep.RegionHeld3
import Derived.Deep.DrawnRows
import Derived.Deep.AppendLies
set_option maxHeartbeats 16000000
set_option maxRecDepth 100000
namespace Go.Proofs.YtpoglnpjadmbpaaGreatDoor
open Go.RowKit
theorem ybvd : (Tryz.prog.info? 5).map (fun i=>(i.zero,i.size,i.bytes))=some (some (.int .u8 0),1,1):=by kernel_rfl
theorem ybnd (n:Nat):madeCells #[Value.int .u8 0] n=(u8s (List.replicate n 0)).toArray:=by
 apply Array.ext_getElem?
 intro i
 unfold madeCells u8s
 by_cases h:i<n
 ·simp[h,Nat.mod_one]
 ·simp[h]
theorem ybnf (n:Nat) (x:Int) (hx:x=n) (hn:n<=1000000) (W:World):(Instr.makeSlice 38 (.int .i64 x) (.int .i64 x)).run Tryz.prog W=.ok (.slice (some ⟨W.heap.size,0,none⟩) n n) (W.alloc (.cells (u8s (List.replicate n 0)).toArray 5)):=by
 subst hx
 rw[<-ybnd]
 exact run_make_row' 38 5 (.int .u8 0) 1 ybpu ybvd rfl .i64 .i64 n (by omega) (by omega) W
theorem qah (w:World) (o:Obj):(w.alloc o).heap.size=w.heap.size+1:=by show (w.heap.push _).size=_;simp
theorem qcf {w:World} {o:Obj} {i:Nat} (h:i<w.heap.size):(w.alloc o).heap[i]? = w.heap[i]? :=((Below.refl w.heap.size w).alloc (Nat.le_refl _) o).block i h
theorem qhg {w:World} {o:Obj} {n:Nat} (h:n=w.heap.size):(w.alloc o).heap[n]? = some o:=by subst h;exact heap_alloc_new w o
theorem qtj {w:World} {g cap:Nat} {t:TypeId} {fr:Nat × Nat} {D:List Int} {n:Nat} (h:w.heap[g]? = some (.cells (u8s D).toArray t fr)) (hn:D.length=n):qaf w (.slice (some ⟨g,0,none⟩) n cap) D:=by
 refine⟨by rw[qal];omega,Or.inr ⟨g,0,cap,by rw[hn],fun j x hx=>?_⟩⟩
 rw[cell_of_row _ _ _ _ _ _ h,Nat.zero_add,<-hx,<-Array.getElem?_toList]
structure qqt (w : World) (v : Value) (l : List En) : Prop where
 at_:qdd w v l
 cap:ybqj v
theorem qqt.below {w w':World} {v:Value} {l:List En} (h:qqt w v l) (hb:Below w.heap.size w w'):qqt w' v l:=⟨h.1.below hb,h.2⟩
structure qbk (w : World) (v : Value) (D : List Int) : Prop where
 at_:qaf w v D
 cap:ybqj v
theorem qbk.below {w w':World} {v:Value} {D:List Int} (h:qbk w v D) (hb:Below w.heap.size w w'):qbk w' v D:=⟨qai.below h.1 hb,h.2⟩
def LayOk (l:List En) (w:World) (e:Ending) (w':World):Prop:=∃ v,e=.returned (.tuple #[v,.int .i64 0])/\qbk w' v (layD l)/\Below w.heap.size w w'
def qlu (l:List En) (w:World) (e:Ending) (w':World):Prop:=∃ v,e=.returned (.tuple #[v,.int .i64 0])/\qbk w' v (layD l)/\(∀ b,v.ownBlock=some b->w.heap.size<=b)/\Below w.heap.size w w'
theorem qlu.ok {l:List En} {w:World} {e:Ending} {w':World} (h:qlu l w e w'):LayOk l w e w':=by
 obtain⟨v,h1,h2,_,h4⟩:=h
 exact⟨v,h1,h2,h4⟩
theorem ybyk (v:Value) (l:List En) (w:World) (h:qqt w v l) (hl:l.length<=1000000) (r:Int) (hr:qct l=r) (hr0:r ≠ 0):
  Calls Tryz.prog 81 #[v] w fun e w'=>e=.returned (.tuple #[.slice none 0 0,.int .i64 r])/\Below w.heap.size w w':=by
 obtain⟨N,HN⟩:∃ N,Hid (N=l.length):=⟨_,rfl⟩
 obtain⟨p,cp,rfl,_⟩:=qgt h.1 N HN.out
 have HB0:Hid (Below w.heap.size w (w.alloc (.cells #[.slice p N cp] 28))):=(Below.refl _ _).alloc (Nat.le_refl _) _
 have HR:Hid (Calls Tryz.prog 117 #[.slice p N cp] (w.alloc (.cells #[.slice p N cp] 28)) fun e w'=>e=.returned (.int .i64 r)/\Below (w.alloc (.cells #[.slice p N cp] 28)).heap.size (w.alloc (.cells #[.slice p N cp] 28)) w'):=by
  have:=qsp (.slice p N cp) l (w.alloc (.cells #[.slice p N cp] 28)) (h.1.below HB0.out) h.2 hl
  rw[hr]at this
  exact this
 have b1:(r == 0)=false:=by rw[beq_eq_false_iff_ne];exact hr0
 have b2:(r != 0)=true:=by simp[bne,b1]
 clear h hr
 go_enter Tryz.func81,Tryz.ntmps81
 go_wp2_with fail
 refine HR.out.mono ?_
 rintro e w1 ⟨rfl,hb1⟩
 have HB1:Hid (Below w.heap.size w w1):=Below.step HB0.out hb1
 clear hb1
 go_wp2
 go_returns
 exact⟨rfl,HB1.out⟩
theorem ybcn (v:Value) (l:List En) (w:World) (h:qqt w v l) (hr:qct l=0):
  Calls Tryz.prog 81 #[v] w (qlu l w):=by
 have hz:=(qce l).1 hr
 have HZ:=Lib.hid hz
 have hl:=hz.1
 obtain⟨N,HN⟩:∃ N,Hid (N=l.length):=⟨_,rfl⟩
 rw[<-HN.out]at hl
 obtain⟨p,cp,rfl,_⟩:=qgt h.1 N HN.out
 have HB0:Hid (Below w.heap.size w (w.alloc (.cells #[.slice p N cp] 28))):=(Below.refl _ _).alloc (Nat.le_refl _) _
 have HR:Hid (Calls Tryz.prog 117 #[.slice p N cp] (w.alloc (.cells #[.slice p N cp] 28)) fun e w'=>e=.returned (.int .i64 0)/\Below (w.alloc (.cells #[.slice p N cp] 28)).heap.size (w.alloc (.cells #[.slice p N cp] 28)) w'):=by
  have:=qsp (.slice p N cp) l (w.alloc (.cells #[.slice p N cp] 28)) (h.1.below HB0.out) h.2 (by rw[<-HN.out];omega)
  rw[hr]at this
  exact this
 have HH:=Lib.hid h
 have hA0:=heap_alloc_new w (.cells #[.slice p N cp] 28)
 have HA0:=Lib.hid hA0
 clear h hr hz hA0
 obtain⟨M,HM⟩:∃ M,Hid (16*N=M):=⟨_,rfl⟩
 have wm:IntKind.i64.wrap (16*(N:Int))=(M:Int):=by rw[IntWalk.i64_in _ (by omega)];have:=HM.out;omega
 obtain⟨Z,HZ0⟩:∃ Z,Hid (Z=List.replicate M (0:Int)):=⟨_,rfl⟩
 have hmk:∀ W:World,(Instr.makeSlice 38 (.int .i64 (M:Int)) (.int .i64 (M:Int))).run Tryz.prog W=.ok (.slice (some ⟨W.heap.size,0,none⟩) M M) (W.alloc (.cells (u8s Z).toArray 5)):=fun W=>by
  rw[HZ0.out];exact ybnf M M rfl (by have:=HM.out;omega) W
 go_enter Tryz.func81,Tryz.ntmps81
 go_wp2_with fail
 refine HR.out.mono ?_
 rintro e w1 ⟨rfl,hb1⟩
 have hA1:=(hb1.block w.heap.size (qac HA0.out)).trans HA0.out
 have a1:w1.cell? ⟨w.heap.size,0,none⟩=some (.slice p N cp):=cell_of_row _ _ _ _ _ _ hA1
 have HA1:=Lib.hid hA1
 have HB1:Hid (Below w.heap.size w w1):=Below.step HB0.out hb1
 clear hb1 hA1
 go_wp2_with fail
 refine (qvw _ l w1 (HH.out.1.below HB1.out) (by rw[<-HN.out];omega)).mono ?_
 rintro e w2 ⟨v2,rfl,hown,hb2,hz2⟩
 rw[<-HN.out]at hown
 obtain⟨p2,c2,rfl,_⟩:=qat hown
 have hA2:=(hb2.block w.heap.size (qac HA1.out)).trans HA1.out
 have a2:w2.cell? ⟨w.heap.size,0,none⟩=some (.slice p N cp):=cell_of_row _ _ _ _ _ _ hA2
 have f2:w2.frozen? ⟨w.heap.size,0,none⟩=false:=frozen_of_row _ _ _ _ _ hA2
 obtain⟨w3,HW3⟩:∃ W,Hid (w2.setCell ⟨w.heap.size,0,none⟩ (.slice p2 N c2)=W):=⟨_,rfl⟩
 have hA3:w3.heap[w.heap.size]? = some (.cells #[.slice p2 N c2] 28 (0,0)):=by
  rw[<-HW3.out,setCell_eq_setRow _ _ _ _ _ _ _ hA2,setRow_heap _ _ _ _ _ _ hA2]
  rfl
 have hown3:w3.ownsRow w1.heap.size 100 2 (.slice p2 N c2) N (ents l):=qci hown fun b hb=>by
  rw[<-HW3.out,Below.heap_setCell _ _ _ _ (fun e=>qds hown hA2 (by decide) (by rw[hb,e]))]
 have HB3:Hid (Below w.heap.size w w3):=by
  rw[<-HW3.out]
  exact (Below.step HB1.out hb2).setCell (Nat.le_refl _) _
 have hsort:=ybus w1.heap.size (.slice p2 N c2) l w3 (by rw[<-HN.out];exact hown3) (by rw[<-HN.out];omega)
 have HSO:=Lib.hid hsort
 have HO3:=Lib.hid hown3
 have HA3:=Lib.hid hA3
 have a3:w3.cell? ⟨w.heap.size,0,none⟩=some (.slice p2 N c2):=cell_of_row _ _ _ _ _ _ hA3
 clear hown hb2 hA2 hown3 hsort hA3
 have HA3':=a3
 rw[<-HW3.out]at HA3'
 go_wp2_with fail
 rw[HW3.out]
 refine HSO.out.mono ?_
 rintro e w4 ⟨rfl,T,hp,hs,hown4,hgr⟩
 have hk4:qab (fun i=>(Value.slice p2 N c2).ownBlock=some i) w3 w4:=qab.grown hgr fun r hr=>hr
 have hob:∀ i,(Value.slice p2 N c2).ownBlock=some i->w1.heap.size<=i:=fun i hi=>by
  obtain⟨_,⟨hv,_⟩ | ⟨g,cap,cur,hv,hg,_⟩⟩:=HO3.out
  ·rw[hv]at hi;simp[Value.ownBlock]at hi
  ·rw[hv]at hi
   have:g=i:=by simpa[Value.ownBlock]using hi
   rw[<-this];exact hg
 have hA4:=(hk4.block w.heap.size (qac HA3.out) (qds HO3.out HA3.out (by decide))).trans HA3.out
 have a4:w4.cell? ⟨w.heap.size,0,none⟩=some (.slice p2 N c2):=cell_of_row _ _ _ _ _ _ hA4
 have hB4:Below w.heap.size w w4:=HB3.out.trans (hk4.to_below (fun i hi=>Nat.le_trans HB1.out.size (hob i hi)) HB3.out.size)
 have HA4:=Lib.hid hA4
 have HB4:=Lib.hid hB4
 have HO4:=Lib.hid hown4
 have HPM:=Lib.hid hp
 have HPS:=Lib.hid hs
 have hlt4:w.heap.size<w4.heap.size:=qac hA4
 have hne4:¬ w.heap.size=w4.heap.size:=by omega
 clear hp hs hown4 hgr hk4 hob hA4 hB4 HA3' a1 a2 a3 f2 HW3
 obtain⟨w6,HW6⟩:∃ W,Hid ((((w4.alloc (.cells (u8s Z).toArray 5)).alloc (.cells #[.slice (some ⟨w4.heap.size,0,none⟩) M M] 38)).alloc (.cells #[.int .i64 0] 3)).alloc (.cells #[.func (.func 122) #[] #[.pointer (some ⟨w.heap.size,0,none⟩),.pointer (some ⟨w4.heap.size+1+1+1,0,none⟩),.pointer (some ⟨w4.heap.size+1,0,none⟩),.pointer (some ⟨w4.heap.size+1+1,0,none⟩)]] 121)=W):=⟨_,rfl⟩
 have hold6:∀ i,i<w4.heap.size->w6.heap[i]? = w4.heap[i]? :=fun i hi=>by
  rw[<-HW6.out,qcf (by simp only[qah];omega),qcf (by simp only[qah];omega),qcf (by simp only[qah];omega),qcf hi]
 have h60:w6.heap[w4.heap.size]? = some (.cells (u8s Z).toArray 5):=by
  rw[<-HW6.out,qcf (by simp only[qah];omega),qcf (by simp only[qah];omega),qcf (by simp only[qah];omega),qhg rfl]
 have h61:w6.heap[w4.heap.size+1]? = some (.cells #[.slice (some ⟨w4.heap.size,0,none⟩) M M] 38):=by
  rw[<-HW6.out,qcf (by simp only[qah];omega),qcf (by simp only[qah];omega),qhg (by simp only[qah])]
 have h62:w6.heap[w4.heap.size+1+1]? = some (.cells #[.int .i64 0] 3):=by
  rw[<-HW6.out,qcf (by simp only[qah];omega),qhg (by simp only[qah])]
 have h63:w6.heap[w4.heap.size+1+1+1]? = some (.cells #[.func (.func 122) #[] #[.pointer (some ⟨w.heap.size,0,none⟩),.pointer (some ⟨w4.heap.size+1+1+1,0,none⟩),.pointer (some ⟨w4.heap.size+1,0,none⟩),.pointer (some ⟨w4.heap.size+1+1,0,none⟩)]] 121 (0,0)):=by
  rw[<-HW6.out,qhg (by simp only[qah])]
 have hb6:Below w.heap.size w w6:=by
  rw[<-HW6.out]
  have s1:=HB4.out.size
  exact (((HB4.out.alloc s1 _).alloc (by simp only[qah];omega) _).alloc (by simp only[qah];omega) _).alloc (by simp only[qah];omega) _
 have hTl:T.length=N:=by rw[HPM.out.length_eq,<-HN.out]
 have own4:w4.ownsRow 0 100 2 (.slice p2 N c2) N (ents T):=by
  have h:=HO4.out
  rw[<-HN.out]at h
  exact⟨h.1,h.2.elim Or.inl (fun ⟨g,cap,cur,hv,_,r⟩=>Or.inr ⟨g,cap,cur,hv,Nat.zero_le _,r⟩)⟩
 have hlay:qle w.heap.size (w4.heap.size+1+1+1) (w4.heap.size+1) (w4.heap.size+1+1) w4.heap.size p2 N c2 M M T Z 0 w6:=by
  refine⟨?_,hTl,qci own4 fun b hb=>?_,h63,?_,?_,?_,?_,Nat.le_refl _,HM.out.symm⟩
  ·rw[hold6 _ hlt4];exact HA4.out
  ·have hlt:b<w4.heap.size:=by
    obtain⟨_,⟨hv,_⟩ | ⟨g,cap,cur,hv,_,hh,_⟩⟩:=own4
    ·rw[hv]at hb;simp[Value.ownBlock]at hb
    ·rw[hv]at hb
     have:g=b:=by simpa[Value.ownBlock]using hb
     rw[<-this];exact qac hh
   rw[hold6 _ hlt]
  ·exact h61
  ·exact h60
  ·exact h62
  ·rw[HZ0.out,List.length_replicate]
 have HOKT:Hid (∀ x ∈ T,x.1.size<=14/\0<=x.2/\x.2<=255):=fun x hx=>by
  have h1:=qnd (HZ.out.2.1 x (HPM.out.mem_iff.1 hx))
  exact⟨(qna h1.1).1,by omega,by omega⟩
 have hcall:=ybsx w.heap.size (w4.heap.size+1+1+1) (w4.heap.size+1) (w4.heap.size+1+1) w4.heap.size p2 N c2 M M T HOKT.out hl N 0 0 Z w6 (by omega) (by rw[(quk hl).2.1];omega) hlay (by omega)
 rw[show ((0:Nat):Int)=0 from rfl]at hcall
 have HCALL:=Lib.hid hcall
 have HB6:=Lib.hid hb6
 clear hcall hb6 hlay own4 h63 h62 h61 h60 hold6
 go_wp2_with fail
 rw[HW6.out]
 refine HCALL.out.mono ?_
 rintro e w7 ⟨rfl,hL,hk⟩
 have a7:w7.cell? ⟨w4.heap.size+1,0,none⟩=some (.slice (some ⟨w4.heap.size,0,none⟩) M M):=cell_of_row _ _ _ _ _ _ hL.o
 have hD:layF Z ((ino N 0).zip (T.drop 0))=layD l:=by
  have hT:T=qnr l:=qwx HPM.out (qzv HPS.out (((HPM.out.map (·.1)).nodup_iff).2 HZ.out.2.2))
  unfold layD layS
  rw[<-hT,hTl,List.drop_zero,HZ0.out,HM.out]
 have hB7:Below w.heap.size w w7:=HB6.out.trans (hk.to_below (fun i hi=>by
  have:=HB4.out.size
  rcases hi with rfl | rfl <;> omega) HB6.out.size)
 have HRES:Hid (qlu l w (.returned (.tuple #[.slice (some ⟨w4.heap.size,0,none⟩) M M,.int .i64 0])) w7):=by
  refine⟨_,rfl,⟨?_,fun p n c he=>?_⟩,fun b hb=>?_,hB7⟩
  ·have h1:=hL.b
   rw[hD]at h1
   have h2:=hL.d
   rw[hD]at h2
   exact qtj h1 h2
  ·injection he with _ e2 e3
   omega
  ·injection hb with hb
   have hb':w4.heap.size=b:=hb
   have:=HB4.out.size
   omega
 clear hL hk hD hB7
 go_wp2
 go_returns
 exact HRES.out
theorem lay_ok (v:Value) (l:List En) (w:World) (h:qqt w v l) (hr:qct l=0):
  Calls Tryz.prog 81 #[v] w (LayOk l w):=
 (ybcn v l w h hr).mono fun _ _ hh=>hh.ok
open Go.Shelf
def qer (D:List Int):Prop:=∀ x ∈ D,0<=x/\x<=255
theorem ybgu {D E:List Int} {o:Nat} (h:qer D) (hE:qer E):qer (over D o E):=fun x hx=>by
 have h3:x ∈ D.take o\/x ∈ E\/x ∈ D.drop (o+E.length):=by
  have:=hx
  unfold over at this
  simpa only[List.mem_append]using this
 clear hx
 rcases h3 with hx | hx | hx
 ·exact h x (List.mem_of_mem_take hx)
 ·exact hE x hx
 ·exact h x (List.mem_of_mem_drop hx)
theorem ybqz (s:ByteArray):qer (bI s):=fun x hx=>by
 obtain⟨b,_,rfl⟩:=List.mem_map.1 hx
 have:=b.toNat_lt
 omega
theorem qua : ∀ (P:List (Nat × En)) (D:List Int),qer D->(∀ p ∈ P,0<=p.2.2/\p.2.2<=255)->qer (layF D P)
 | [],_,h,_=>h
 | p :: P,D,h,hp=>by
  refine qua P (putE D p) (fun x hx=>?_) (fun q hq=>hp q (by simp[hq]))
  unfold putE at hx
  rcases List.mem_or_eq_of_mem_set hx with hx | hx
  ·exact ybgu h (ybqz _) x hx
  ·rw[hx];exact hp p (by simp)
theorem ybkw {l:List En} (h:qct l=0):qer (layD l):=by
 obtain⟨h1,h2,_⟩:=qqo h
 unfold layD layS
 refine qua _ _ (fun x hx=>?_) fun p hp=>?_
 ·rw[List.mem_replicate]at hx;omega
 ·have:=qnd (h2 p.2 (List.of_mem_zip hp).2)
  omega
theorem ybpj : Tryz.prog.underlying 9=some .string:=by kernel_rfl
theorem qxw {w:World} {v:Value} {D:List Int} (h:qaf w v D) (h0:0<D.length):(convert 38 9 v).run Tryz.prog w=.ok (.string (qch D)) w:=by
 obtain⟨_,⟨hn,_⟩ | ⟨g,o,c,rfl,hc⟩⟩:=h
 ·omega
 exact qez w 38 9 5 g o c D.length D rfl ybpu (by kernel_rfl) ybpj hc
theorem ybbf (D:List Int):(qch D).size=D.length:=by
 show (qch D).data.toList.length=_
 rw[yblb,List.length_map]
theorem ybow (v:Value) (D:List Int) (w:World) (h:qbk w v D) (hD:qer D) (at_:Nat) (hat:16*at_+16<=D.length) (hl:D.length<=1000000):
  Calls Tryz.prog 80 #[v,.int .i64 (at_:Int)] w fun e w'=>e=.returned (.agg #[.string (rdE D at_).1,.int .i64 (rdE D at_).2])/\Below w.heap.size w w':=by
 obtain⟨n1,Hn1⟩:∃ x,Hid ((rdE D at_).1=x):=⟨(rdE D at_).1,rfl⟩
 obtain⟨n2,Hn2⟩:∃ x,Hid ((rdE D at_).2=x):=⟨(rdE D at_).2,rfl⟩
 rw[Hn1.out,Hn2.out]
 obtain⟨N,HN⟩:∃ N,Hid (D.length=N):=⟨_,rfl⟩
 obtain⟨g,o,cp,rfl,hc⟩:∃ g o cp,v=.slice (some ⟨g,o,none⟩) N cp/\∀ (j:Nat) (x:Value),(u8s D)[j]? = some x->w.cell? ⟨g,o+j,none⟩=some x:=by
  obtain⟨_,⟨h0,_⟩ | ⟨g,o,cap,hv,hc⟩⟩:=h.1
  ·omega
  ·exact⟨g,o,cap,by rw[<-HN.out];exact hv,hc⟩
 have hcap:N<=cp:=h.2 _ _ _ rfl
 rw[HN.out]at hat hl
 obtain⟨b16,hb16⟩:∃ b,16*at_=b:=⟨_,rfl⟩
 obtain⟨b30,hb30⟩:∃ b,b16+14=b:=⟨_,rfl⟩
 have w4:IntKind.i64.wrap (16*(at_:Int))=(b16:Int):=by rw[IntWalk.i64_in _ (by omega)];omega
 have w5:IntKind.i64.wrap ((b16:Int)+14)=(b30:Int):=by rw[IntWalk.i64_in _ (by omega)];omega
 have hE:((D.drop b16).take 14).length=14:=by rw[List.length_take,List.length_drop,HN.out];omega
 have hsub:∀ W:World,Below w.heap.size w W->qaf W (.slice (some ⟨g,o+b16,none⟩) (b30 - b16) (cp - b16)) ((D.drop b16).take 14):=fun W hW=>by
  refine⟨by rw[qal,Nat.mul_one],Or.inr ⟨g,o+b16,cp - b16,by rw[hE];congr 1;omega,fun j x hx=>?_⟩⟩
  have hj:j<14:=by
   have:=(List.getElem?_eq_some_iff.1 hx).1
   rw[qal,hE]at this
   exact this
  rw[qdf,qdq,List.getElem?_take,if_pos hj,List.getElem?_drop]at hx
  have hlt:g<w.heap.size:=block_lt_of_cell (hc _ _ hx)
  rw[hW.cell hlt,Nat.add_assoc]
  exact hc _ _ hx
 obtain⟨S,HS⟩:∃ S,Hid (qch ((D.drop b16).take 14)=S):=⟨_,rfl⟩
 have hb0:Below w.heap.size w (w.alloc (.cells #[.string { data:=#[] },.int .i64 0] 100)):=(Below.refl _ _).alloc (Nat.le_refl _) _
 have hcv:=qxw (hsub _ hb0) (by rw[hE];omega)
 rw[HS.out]at hcv
 have hND:b30<D.length:=by rw[HN.out];omega
 have hx2:(u8s D)[b30]? = some (.int .u8 n2):=by
  rw[qcj D b30 hND,<-Hn2.out]
  unfold rdE
  show some (Value.int .u8 D[b30])=some (.int .u8 (D.getD (16*at_+14) 0))
  rw[hb16,hb30,List.getD_eq_getElem?_getD,List.getElem?_eq_getElem hND]
  rfl
 have hx0:=hc b30 _ hx2
 have hlt:g<w.heap.size:=block_lt_of_cell hx0
 have hcell:(w.alloc (.cells #[.string { data:=#[] },.int .i64 0] 100)).cell? ⟨g,o+b30,none⟩=some (.int .u8 n2):=by
  rw[hb0.cell hlt];exact hx0
 have hcell2:(w.alloc (.cells #[.string n1,.int .i64 n2] 100)).drew.cell? ⟨g,o+b30,none⟩=some (.int .u8 n2):=by
  have h1:Below w.heap.size w (w.alloc (.cells #[.string n1,.int .i64 n2] 100)):=(Below.refl _ _).alloc (Nat.le_refl _) _
  rw[h1.drew.cell hlt];exact hx0
 have hr2:0<=n2/\n2<=255:=by
  have h1:=qcj D b30 hND
  rw[hx2]at h1
  injection h1 with h1
  injection h1 with _ h1
  rw[h1]
  exact hD _ (List.getElem_mem _)
 obtain⟨r1,r2⟩:=hr2
 have wi:IntKind.i64.wrap n2=n2:=IntWalk.i64_in _ (by omega)
 have HTR:Hid (∀ W:World,Calls Tryz.prog 116 #[.string S,.string ⟨#[0]⟩] W fun e w'=>e=.returned (.string n1)/\w'=W):=fun W=>by
  have h1:=Any.strings_TrimRight_one Tryz.lays162 S 0 (by decide) W (by rw[<-HS.out,ybbf,hE];omega)
  have h2:(⟨(Lib.trimRightB S.data.toList 0).toArray⟩:ByteArray)=n1:=by
   rw[<-Hn1.out,<-HS.out,<-hb16]
   rfl
  rw[h2]at h1
  exact h1
 have HB0:=Lib.hid hb0
 have hg0:¬ g=w.heap.size:=by omega
 clear h hsub hc hx2 hx0 hb0 hE hD
 go_enter Tryz.func80,Tryz.ntmps80
 go_wp2
 have kb:(b30:Int)<(N:Int):=by omega
 refine wp_region_noPanic ?_
 go_region_held_law (fun w'=>w'.cell? ⟨g,o+b30,none⟩=some (.int .u8 n2)) (first | exact hcell | exact hcell2 | (go_keep;done)) (first | (go_at_call 116;refine (HTR.out _).mono ?_;rintro e w' ⟨rfl,rfl⟩))
 all_goals
  refine NoPanic.normal ?_
  go_wp2
  go_returns
  exact⟨rfl,((Below.refl _ _).alloc (Nat.le_refl _) _).drew⟩
end Go.Proofs.YtpoglnpjadmbpaaGreatDoor
namespace Go.Proofs.YtpoglnpjadmbpaaGreatDoor
open Go.RowKit
section
variable {P : Program} {o : Oper} {a : Act} {w : World} {K : Act -> World -> Prop} {Q : Exit -> Act -> World -> Prop}
theorem ybjo {ops:Array Oper} {X:Prop} (hgd:o.guard=none) (f:FuncId) (xs:Array Operand) (ats:Array TypeId) (ho:o.op=.call { callee:=.value (.func f),args:=xs,argTypes:=ats })
  (hf:∀ args w,(callFunc f args).run P w=.ok (.enter f args) w) (args:Array Value) (hargs:#[]++xs.map a.eval++#[]=args) (R:Value->World->Prop)
  (hc:Calls P f args w fun e w'=>∃ v,e=.returned v/\R v w') (h:∀ v w',R v w'->K (a.put o.dst v) w'):if Region.wanted o (yielded ops a.tmps)=true then Oper.wp P o a w K Q else X:=by
 rw[if_pos (by simp[Region.wanted,hgd])]
 have e:execOp a.eval o=callFunc f (#[]++xs.map a.eval++#[]):=by
  obtain⟨dst,op,ty,pos,after,guard⟩:=o
  simp only at ho
  subst ho
  rfl
 unfold Oper.wp
 rw[e,hargs,hf]
 exact hc.mono fun e w' ⟨v,he,hr⟩=>by subst he;exact h v w' hr
end
theorem qpr (w:World) (o:Obj) (p:Addr) (h:p.block<w.heap.size):(w.alloc o).frozen? p=w.frozen? p:=((Below.refl w.heap.size w).alloc (Nat.le_refl _) o).frozen h
structure qjm (w0 : World) (gn gy go gb n : Nat) (v : Value) (outs : List En) (w : World) : Prop where
 z:w0.heap.size<=gn/\w0.heap.size<=gy/\w0.heap.size<=go/\w0.heap.size<=gb
 n:w.heap[gn]? = some (.cells #[.int .i64 (n:Int)] 3 (0,0))
 y:w.heap[gy]? = some (.cells #[.func (.func 79) #[] #[.pointer (some ⟨gn,0,none⟩),.pointer (some ⟨gy,0,none⟩),.pointer (some ⟨go,0,none⟩),.pointer (some ⟨gb,0,none⟩)]] 121 (0,0))
 b:w.heap[gb]? = some (.cells #[v] 38 (0,0))
 o:∃ ov,w.heap[go]? = some (.cells #[ov] 28 (0,0))/\w.ownsRow w0.heap.size 100 2 ov outs.length (ents outs)
 hb:Below w0.heap.size w0 w
def qqu (w0:World) (gn gy go gb n:Nat) (v:Value) (D:List Int) (outs:List En) (at_:Nat) (e:Ending) (w':World):Prop:=
 e=.returned (.tuple #[])/\qjm w0 gn gy go gb n v (outs++(ino n at_).map (rdE D)) w'
theorem qjm.snoc {w0 w wR w4:World} {gn gy go gb n gg cap m:Nat} {v ov:Value} {outs:List En} {cs:Array Value} (h:qjm w0 gn gy go gb n v outs w) (ho:w.heap[go]? = some (.cells #[ov] 28 (0,0))) (hov:w.ownsRow w0.heap.size 100 2 ov outs.length (ents outs))
  (hb:Below w.heap.size w wR) (x:En) (hm:outs.length+1=m) (hown:w4.ownsRow w0.heap.size 100 2 (.slice (some ⟨gg,0,none⟩) m cap) m (ents outs++[.string x.1,.int .i64 x.2]))
  (hg:(wR.alloc (.cells cs 100)).grownBy w4 ov.ownBlock):qjm w0 gn gy go gb n v (outs++[x]) (w4.setCell ⟨go,0,none⟩ (.slice (some ⟨gg,0,none⟩) m cap)):=by
 have k4:∀ (i:Nat) (c:Array Value) (t:TypeId),w.heap[i]? = some (.cells c t (0,0))->t ≠ 100->w4.heap[i]? = some (.cells c t (0,0)):=fun i c t hi ht=>by
  have h1:=(hb.block i (qac hi)).trans hi
  have h2:=qad h1 (.cells cs 100)
  exact (hg.block i (qac h2) (fun e=>qds hov hi (Ne.symm ht) e.symm)).trans h2
 have k5:∀ (i:Nat) (c:Array Value) (t:TypeId),w.heap[i]? = some (.cells c t (0,0))->t ≠ 100->t ≠ 28->(w4.setCell ⟨go,0,none⟩ (.slice (some ⟨gg,0,none⟩) m cap)).heap[i]? = some (.cells c t (0,0)):=fun i c t hi ht ht2=>by
  rw[Below.heap_setCell _ _ _ _ (qam hi ho ht2)]
  exact k4 i c t hi ht
 have hgo:=k4 go _ _ ho (by decide)
 have hz:w0.heap.size<=wR.heap.size:=Nat.le_trans h.hb.size hb.size
 have hb4:Below w0.heap.size w0 w4:=Below.grown ((Below.step h.hb hb).alloc hz _) hg (by simp only[qah];omega) (fun q hq=>by
  obtain⟨_,⟨hv,_⟩ | ⟨g,cap,cur,hv,hg,_⟩⟩:=hov
  ·rw[hv]at hq;simp[Value.ownBlock]at hq
  ·rw[hv]at hq
   have:g=q:=by simpa[Value.ownBlock]using hq
   rw[<-this];exact hg)
 have hown2:w4.ownsRow w0.heap.size 100 2 (.slice (some ⟨gg,0,none⟩) m cap) (outs++[x]).length (ents (outs++[x])):=by
  rw[List.length_append,qed]
  show w4.ownsRow _ _ 2 _ (outs.length+1) (ents outs++[.string x.1,.int .i64 x.2])
  rw[hm]
  exact hown
 refine⟨h.z,k5 _ _ _ h.n (by decide) (by decide),k5 _ _ _ h.y (by decide) (by decide),k5 _ _ _ h.b (by decide) (by decide),⟨_,?_,qci hown2 fun b hb=>?_⟩,hb4.setCell h.z.2.2.1 _⟩
 ·rw[setCell_eq_setRow _ _ _ _ _ _ _ hgo,setRow_heap _ _ _ _ _ _ hgo]
  rfl
 ·exact Below.heap_setCell _ _ _ _ (fun e=>qds hown hgo (by decide) (by rw[hb,e]))
theorem qjm.drew {w0 w:World} {gn gy go gb n:Nat} {v:Value} {outs:List En} (h:qjm w0 gn gy go gb n v outs w):qjm w0 gn gy go gb n v outs w.drew:=⟨h.z,h.n,h.y,h.b,h.o,h.hb.drew⟩
theorem ybmw (w0 : World) (gn gy go gb n : Nat) (v : Value) (D : List Int) (HV0 : qbk w0 v D) (hD0 : qer D) (hn : 16 * n = D.length) (hn32 : n ≤ 32) : ∀ (f at_ : Nat) (outs : List En) (w : World), n ≤ at_ + f → outs.length + (ino n at_).length ≤ 32 → at_ ≤ 1000 → qjm w0 gn gy go gb n v outs w →
    Calls Tryz.prog 79 #[.int .i64 (at_ : Int), .pointer (some ⟨gn, 0, none⟩), .pointer (some ⟨gy, 0, none⟩), .pointer (some ⟨go, 0, none⟩), .pointer (some ⟨gb, 0, none⟩)] w (qqu w0 gn gy go gb n v D outs at_) := by
  have HV := Lib.hid HV0
  have HD := Lib.hid hD0
  have HND := Lib.hid hn
  clear HV0 hD0 hn
  obtain ⟨i0, hi0, hz0, hz1, hz2⟩ := info_parts qrh
  have HI := Lib.hid hi0
  have HZ0 := Lib.hid hz0
  have HZ1 := Lib.hid hz1
  have HZ2 := Lib.hid hz2
  clear hi0 hz0 hz1 hz2
  have base : ∀ (at_ : Nat) (outs : List En) (w : World), n ≤ at_ → qjm w0 gn gy go gb n v outs w → Calls Tryz.prog 79 #[.int .i64 (at_ : Int), .pointer (some ⟨gn, 0, none⟩), .pointer (some ⟨gy, 0, none⟩), .pointer (some ⟨go, 0, none⟩), .pointer (some ⟨gb, 0, none⟩)] w (qqu w0 gn gy go gb n v D outs at_) := by
    intro at_ outs w hat h
    have c1 : w.cell? ⟨gn, 0, none⟩ = some (.int .i64 (n : Int)) := cell_of_row _ _ _ _ _ _ h.n
    have hle : ¬ (at_ : Int) < (n : Int) := by omega
    have HE : Hid (qqu w0 gn gy go gb n v D outs at_ (.returned (.tuple #[])) w) := by
      refine ⟨rfl, ?_⟩
      rw [ybcj hat, List.map_nil, List.append_nil]
      exact h
    clear h
    go_enter Tryz.func79, Tryz.ntmps79
    go_wp2
    go_returns
    exact HE.out
  have HBASE := Lib.hid base
  clear base
  intro f
  induction f with
  | zero => exact fun at_ outs w h1 _ _ h3 => HBASE.out at_ outs w (by omega) h3
  | succ f ih =>
    intro at_ outs w h1 h2 h4 h3
    by_cases hat : n ≤ at_
    · exact HBASE.out at_ outs w hat h3
    have hlt : at_ < n := by omega
    have hino := qwh hlt
    obtain ⟨L, HL⟩ : ∃ L, Hid (ino n (2 * at_ + 1) = L) := ⟨_, rfl⟩
    obtain ⟨R, HR⟩ : ∃ R, Hid (ino n (2 * at_ + 2) = R) := ⟨_, rfl⟩
    rw [HL.out, HR.out] at hino
    obtain ⟨a1, Ha1⟩ : ∃ a, Hid (2 * at_ + 1 = a) := ⟨_, rfl⟩
    obtain ⟨a2, Ha2⟩ : ∃ a, Hid (2 * at_ + 2 = a) := ⟨_, rfl⟩
    rw [Ha1.out] at HL
    rw [Ha2.out] at HR
    have hlen : (ino n at_).length = L.length + (R.length + 1) := by rw [hino]; simp
    rw [hlen] at h2
    have HIN := Lib.hid hino
    have i1 := ih a1 outs w (by have := Ha1.out; omega) (by rw [HL.out]; omega) (by have := Ha1.out; omega) h3
    have I1 := Lib.hid i1
    have I2 : Hid (∀ (o2 : List En) (w : World), o2.length = outs.length + L.length + 1 → qjm w0 gn gy go gb n v o2 w → Calls Tryz.prog 79 #[.int .i64 (a2 : Int), .pointer (some ⟨gn, 0, none⟩), .pointer (some ⟨gy, 0, none⟩), .pointer (some ⟨go, 0, none⟩), .pointer (some ⟨gb, 0, none⟩)] w (qqu w0 gn gy go gb n v D o2 a2)) := fun o2 w ho hw => ih a2 o2 w (by have := Ha2.out; omega) (by rw [HR.out]; omega) (by have := Ha2.out; omega) hw
    have c1 : w.cell? ⟨gn, 0, none⟩ = some (.int .i64 (n : Int)) := cell_of_row _ _ _ _ _ _ h3.n
    have c2 : w.cell? ⟨gy, 0, none⟩ = some (.func (.func 79) #[] #[.pointer (some ⟨gn, 0, none⟩), .pointer (some ⟨gy, 0, none⟩), .pointer (some ⟨go, 0, none⟩), .pointer (some ⟨gb, 0, none⟩)]) := cell_of_row _ _ _ _ _ _ h3.y
    have w1 : IntKind.i64.wrap (2 * (at_ : Int)) = 2 * (at_ : Int) := IntWalk.i64_in _ (by omega)
    have w2 : IntKind.i64.wrap (2 * (at_ : Int) + 1) = (a1 : Int) := by rw [IntWalk.i64_in _ (by omega)]; have := Ha1.out; omega
    have w3 : IntKind.i64.wrap (2 * (at_ : Int) + 2) = (a2 : Int) := by rw [IntWalk.i64_in _ (by omega)]; have := Ha2.out; omega
    have hng : (at_ : Int) < (n : Int) := by omega
    clear ih i1 h1 h4 h3 hino hlen
    go_enter Tryz.func79, Tryz.ntmps79
    go_wp2_with fail
    refine I1.out.mono ?_
    rintro e wA ⟨rfl, hA⟩
    rw [HL.out] at hA
    obtain ⟨o1, Ho1⟩ : ∃ o, Hid (outs ++ L.map (rdE D) = o) := ⟨_, rfl⟩
    rw [Ho1.out] at hA
    have hl1 : o1.length = outs.length + L.length := by rw [← Ho1.out]; simp
    have HL1 := Lib.hid hl1
    obtain ⟨M1, HM1⟩ : ∃ m, Hid (o1.length = m) := ⟨_, rfl⟩
    have hM1 : M1 ≤ 31 := by have := HM1.out; omega
    clear hl1
    obtain ⟨ov, hgo, hov⟩ := hA.o
    have hovM := hov
    rw [HM1.out] at hovM
    have HOVM := Lib.hid hovM
    clear hovM
    obtain ⟨x1, Hx1⟩ : ∃ x, Hid ((rdE D at_).1 = x) := ⟨(rdE D at_).1, rfl⟩
    obtain ⟨x2, Hx2⟩ : ∃ x, Hid ((rdE D at_).2 = x) := ⟨(rdE D at_).2, rfl⟩
    have hrow := ybow v D wA.drew (HV.out.below hA.hb.drew) HD.out at_ (by have := HND.out; omega) (by have := HND.out; omega)
    rw [Hx1.out, Hx2.out] at hrow
    have HROW : Hid (Calls Tryz.prog 80 #[v, .int .i64 (at_ : Int)] wA.drew fun e w' => ∃ u, e = .returned u ∧ u = .agg #[.string x1, .int .i64 x2] ∧ Below wA.drew.heap.size wA.drew w') := hrow.mono fun e w' ⟨h1, h2⟩ => ⟨_, h1, rfl, h2⟩
    have k0 : wA.cell? ⟨go, 0, none⟩ = some ov := cell_of_row _ _ _ _ _ _ hgo
    have f0 : wA.frozen? ⟨go, 0, none⟩ = false := frozen_of_row _ _ _ _ _ hgo
    have kb : wA.cell? ⟨gb, 0, none⟩ = some v := cell_of_row _ _ _ _ _ _ hA.b
    have hgl : go < wA.heap.size := qac hgo
    have hbl : gb < wA.heap.size := qac hA.b
    have HA := Lib.hid hA
    have HGO := Lib.hid hgo
    have HOV := Lib.hid hov
    have hzA : w0.heap.size ≤ wA.heap.size := hA.hb.size
    have NE := Lib.hid (qds hov hgo (by decide))
    clear hA hgo hov hrow c1 c2
    go_wp2
    go_region_law (first
      | (refine ybjo ?_ 80 #[.tmp 15, .tmp 16] #[38, 3] ?_ (fun _ _ => by kernel_rfl) #[v, .int .i64 (at_ : Int)] ?_ _ HROW.out ?_; (rfl); (rfl); (kernel_rfl); rintro _ w2 ⟨rfl, hb2⟩; have k2 : w2.cell? ⟨go, 0, none⟩ = some ov := (hb2.cell (p := ⟨go, 0, none⟩) hgl).trans k0; have f2 : w2.frozen? ⟨go, 0, none⟩ = false := (hb2.frozen (p := ⟨go, 0, none⟩) hgl).trans f0; have b2 : w2.cell? ⟨gb, 0, none⟩ = some v := (hb2.cell (p := ⟨gb, 0, none⟩) hbl).trans kb; have kz : go < w2.heap.size := Nat.lt_of_lt_of_le hgl hb2.size; have kn : ¬ go = w2.heap.size := Nat.ne_of_lt kz; have HO2 : Hid (w2.ownsRow w0.heap.size 100 2 ov M1 (ents o1)) := qap (w := wA.drew) HOVM.out hb2; have hz2 : w0.heap.size ≤ w2.heap.size := Nat.le_trans hzA hb2.size; have HB2 := Lib.hid hb2; clear hb2)
      | (refine step_append_lies _ (by rfl) _ _ _ (by rfl) w0.heap.size 100 i0 _ 2 24 ybbq HI.out HZ0.out HZ1.out HZ2.out rfl (by omega) ov M1 (ents o1) (by rfl) (HO2.out.alloc _)
          ⟨w2.heap.size, 0, none⟩ 1 1 [.string x1, .int .i64 x2] (by rfl) (by rfl) (World.news_of_block (cs := #[.string x1, .int .i64 x2]) (t := 100) (fr := (0, 0)) (heap_alloc_new w2 _)) (by simp [Value.oneCell'])
          (by omega) (by unfold maxLen; omega) (by omega) (by simp only [qah]; omega) (w2.heap.size + 1) (by simp only [qah]) ?_; intro gg cap4 w4 hown4 hgrow hat2 hlt4
         have k4 : w4.cell? ⟨go, 0, none⟩ = some ov := by rw [hgrow.cell_far _ (by simp only [qah]; omega) (Ne.symm NE.out), World.cell?_alloc_lt _ _ _ kz]; exact k2
         have f4 : w4.frozen? ⟨go, 0, none⟩ = false := by rw [hgrow.frozen_far _ (by simp only [qah]; omega) (Ne.symm NE.out), qpr _ _ _ kz]; exact f2
         have HO4 := Lib.hid hown4
         have HG4 := Lib.hid hgrow
         clear hown4 hgrow hat2))
    all_goals
      have hS := HA.out.drew.snoc (w := wA.drew) HGO.out HOV.out HB2.out (x1, x2) (by rw [HM1.out]) HO4.out HG4.out
      have hxr : (x1, x2) = rdE D at_ := by rw [← Hx1.out, ← Hx2.out]
      rw [hxr] at hS
      obtain ⟨w5, HW5⟩ : ∃ W, Hid (w4.setCell ⟨go, 0, none⟩ (.slice (some ⟨gg, 0, none⟩) (M1 + 1) cap4) = W) := ⟨_, rfl⟩
      rw [HW5.out] at hS ⊢
      have c5 : w5.cell? ⟨gy, 0, none⟩ = some (.func (.func 79) #[] #[.pointer (some ⟨gn, 0, none⟩), .pointer (some ⟨gy, 0, none⟩), .pointer (some ⟨go, 0, none⟩), .pointer (some ⟨gb, 0, none⟩)]) := cell_of_row _ _ _ _ _ _ hS.y
      have HCALL := Lib.hid (I2.out _ _ (by rw [List.length_append, HL1.out]; rfl) hS)
      clear hS k4 f4 HW5 HO4 HG4 hlt4 k2 f2 b2 kz kn HO2 hz2 HB2
      go_wp2_with fail
      refine HCALL.out.mono ?_
      rintro e w6 ⟨rfl, h6⟩
      have HRES : Hid (qqu w0 gn gy go gb n v D outs at_ (.returned (.tuple #[])) w6) := by
        refine ⟨rfl, ?_⟩
        rw [HR.out, ← Ho1.out] at h6
        rw [HIN.out, List.map_append, List.map_cons]
        simpa using h6
      clear h6
      go_wp2
      go_returns
      exact HRES.out
def ListOk (D:List Int) (w:World) (e:Ending) (w':World):Prop:=∃ v,e=.returned (.tuple #[v,.int .i64 0])/\w'.ownsRow w.heap.size 100 2 v (outD D).length (ents (outD D))/\Below w.heap.size w w'
def ybke (w:World) (e:Ending) (w':World):Prop:=e=.returned (.tuple #[.slice none 0 0,.int .i64 3])/\Below w.heap.size w w'
theorem qcq {w:World} {v:Value} {D:List Int} (h:qaf w v D) (N:Nat) (hN:D.length=N):∃ p cp,v=.slice p N cp:=by
 subst hN
 obtain⟨_,⟨h0,a0,c0,rfl⟩ | ⟨g,o,cap,rfl,_⟩⟩:=h
 ·exact⟨a0,c0,by rw[h0]⟩
 ·exact⟨_,cap,rfl⟩
theorem qjx {w:World} {base:Nat} {e:TypeId} {size:Nat} {v:Value} {n:Nat} {xs:List Value} (h:w.ownsRow base e size v n xs):ybqj v:=by
 intro p n' c he
 obtain⟨_,⟨rfl,h0⟩ | ⟨g,cap,cur,rfl,_,_,hc,_⟩⟩:=h
 ·injection he with _ e2 e3;omega
 ·injection he with _ e2 e3;omega
theorem ybmx (v:Value) (D:List Int) (w:World) (h:qbk w v D) (hl:D.length<=1000000) (hbad:D.length % 16 ≠ 0\/512<D.length):
  Calls Tryz.prog 31 #[v] w (ybke w):=by
 obtain⟨N,HN⟩:∃ N,Hid (D.length=N):=⟨_,rfl⟩
 obtain⟨p,cp,rfl⟩:=qcq h.1 N HN.out
 rw[HN.out]at hl hbad
 have HB:Hid (Below w.heap.size w (w.alloc (.cells #[.slice p N cp] 38))):=(Below.refl _ _).alloc (Nat.le_refl _) _
 clear h
 obtain⟨r,Hr⟩:∃ r,Hid (N % 16=r):=⟨_,rfl⟩
 have hrem:(N:Int).tmod 16=(r:Int):=by rw[<-Hr.out];rfl
 by_cases hr0:r=0
 ·subst hr0
  have h5:(512:Int)<(N:Int):=by have:=Hr.out;omega
  go_enter Tryz.func31,Tryz.ntmps31
  go_wp2
  go_returns
  exact⟨rfl,HB.out⟩
 ·have h5:¬ (r:Int)=0:=by omega
  go_enter Tryz.func31,Tryz.ntmps31
  go_wp2
  go_returns
  exact⟨rfl,HB.out⟩
def qjn (D:List Int) (w:World) (e:Ending) (w':World):Prop:=(qcn D=true/\ListOk D w e w')\/(qcn D=false/\ybke w e w')
theorem ybmy (v:Value) (D:List Int) (w:World) (h:qbk w v D) (hD:qer D) (hm:D.length % 16=0) (h512:D.length<=512):
  Calls Tryz.prog 31 #[v] w (qjn D w):=by
 obtain⟨N,HN⟩:∃ N,Hid (D.length=N):=⟨_,rfl⟩
 obtain⟨p,cp,rfl⟩:=qcq h.1 N HN.out
 rw[HN.out]at hm h512
 obtain⟨n,Hn⟩:∃ n,Hid (N / 16=n):=⟨_,rfl⟩
 have hrem:(N:Int).tmod 16=0:=by
  show ((N % 16:Nat):Int)=0
  rw[hm];rfl
 have hquo:(N:Int).tdiv 16=(n:Int):=by rw[<-Hn.out];rfl
 have h5:¬ (512:Int)<(N:Int):=by omega
 have hn32:n<=32:=by have:=Hn.out;omega
 have hn16:16*n=D.length:=by rw[HN.out];have:=Hn.out;omega
 obtain⟨w1,HW1⟩:∃ W,Hid ((((w.alloc (.cells #[.slice p N cp] 38)).alloc (.cells #[.int .i64 (n:Int)] 3)).alloc (.cells #[.slice none 0 0] 28)).alloc (.cells #[.func (.func 79) #[] #[.pointer (some ⟨w.heap.size+1,0,none⟩),.pointer (some ⟨w.heap.size+1+1+1,0,none⟩),.pointer (some ⟨w.heap.size+1+1,0,none⟩),.pointer (some ⟨w.heap.size,0,none⟩)]] 121)=W):=⟨_,rfl⟩
 have hb1:Below w.heap.size w w1:=by
  rw[<-HW1.out]
  exact ((((Below.refl _ _).alloc (Nat.le_refl _) _).alloc (by simp only[qah];omega) _).alloc (by simp only[qah];omega) _).alloc (by simp only[qah];omega) _
 have h10:w1.heap[w.heap.size]? = some (.cells #[.slice p N cp] 38 (0,0)):=by
  rw[<-HW1.out,qcf (by simp only[qah];omega),qcf (by simp only[qah];omega),qcf (by simp only[qah];omega),qhg rfl]
 have h11:w1.heap[w.heap.size+1]? = some (.cells #[.int .i64 (n:Int)] 3 (0,0)):=by
  rw[<-HW1.out,qcf (by simp only[qah];omega),qcf (by simp only[qah];omega),qhg (by simp only[qah])]
 have h12:w1.heap[w.heap.size+1+1]? = some (.cells #[.slice none 0 0] 28 (0,0)):=by
  rw[<-HW1.out,qcf (by simp only[qah];omega),qhg (by simp only[qah])]
 have h13:w1.heap[w.heap.size+1+1+1]? = some (.cells #[.func (.func 79) #[] #[.pointer (some ⟨w.heap.size+1,0,none⟩),.pointer (some ⟨w.heap.size+1+1+1,0,none⟩),.pointer (some ⟨w.heap.size+1+1,0,none⟩),.pointer (some ⟨w.heap.size,0,none⟩)]] 121 (0,0)):=by
  rw[<-HW1.out,qhg (by simp only[qah])]
 have hla:qjm w (w.heap.size+1) (w.heap.size+1+1+1) (w.heap.size+1+1) w.heap.size n (.slice p N cp) [] w1:=
  ⟨⟨by omega,by omega,by omega,Nat.le_refl _⟩,h11,h13,h10,⟨_,h12,⟨rfl,Or.inl ⟨rfl,rfl⟩⟩⟩,hb1⟩
 have hcall:=ybmw w (w.heap.size+1) (w.heap.size+1+1+1) (w.heap.size+1+1) w.heap.size n (.slice p N cp) D h hD hn16 hn32 n 0 [] w1 (by omega) (by rw[(quk hn32).2.1];simpa using hn32) (by omega) hla
 rw[show ((0:Nat):Int)=0 from rfl]at hcall
 have HCALL:=Lib.hid hcall
 have hout:[]++(ino n 0).map (rdE D)=outD D:=by unfold outD;rw[HN.out,Hn.out,List.nil_append]
 have HOUT:=Lib.hid hout
 have HOL:Hid ((outD D).length=n):=by show _=_;rw[<-hout,List.nil_append,List.length_map,(quk hn32).2.1]
 have HIN:=Lib.hid h
 have HH:Hid (D.length % 16=0/\D.length<=512/\D.length=16*n):=by rw[HN.out];exact⟨hm,h512,by rw[<-HN.out,hn16]⟩
 clear h hm h512 hb1 h10 h11 h12 h13 hla hcall hout
 go_enter Tryz.func31,Tryz.ntmps31
 go_wp2_with fail
 rw[HW1.out]
 refine HCALL.out.mono ?_
 rintro e w2 ⟨rfl,h2⟩
 rw[HOUT.out]at h2
 obtain⟨ov,hgo,hov⟩:=h2.o
 have k0:w2.cell? ⟨w.heap.size+1+1,0,none⟩=some ov:=cell_of_row _ _ _ _ _ _ hgo
 have hB2:=h2.hb
 have hgb:=h2.b
 have HGO:=Lib.hid hgo
 have HGB:=Lib.hid hgb
 have HOV:=Lib.hid hov
 have HB2:=Lib.hid hB2
 have hei:qqt w2 ov (outD D):=⟨qai.of_owns hov,qjx hov⟩
 by_cases hr:qct (outD D)=0
 ·have HL:=Lib.hid (lay_ok ov (outD D) w2 hei hr)
  have HR:=Lib.hid hr
  clear h2 hgo hgb hov hB2 hei hr
  go_wp2_with fail
  refine HL.out.mono ?_
  rintro e w3 ⟨c,rfl,hc,hb3⟩
  have hll:(layD (outD D)).length=D.length:=by rw[qmz HR.out,HOL.out,HH.out.2.2]
  have kb:w3.cell? ⟨w.heap.size,0,none⟩=some (.slice p N cp):=(hb3.cell (p:=⟨w.heap.size,0,none⟩) (qac HGB.out)).trans (cell_of_row _ _ _ _ _ _ HGB.out)
  have ko:w3.cell? ⟨w.heap.size+1+1,0,none⟩=some ov:=(hb3.cell (p:=⟨w.heap.size+1+1,0,none⟩) (qac HGO.out)).trans (cell_of_row _ _ _ _ _ _ HGO.out)
  have hB3:=Below.step HB2.out hb3
  have heq:=qjg c (.slice p N cp) (layD (outD D)) D w3 hc.1 (HIN.out.below hB3).1 hll (by rw[hll,HN.out];omega)
  obtain⟨b,Hb⟩:∃ b,Hid (qtl (layD (outD D)) D=b):=⟨_,rfl⟩
  rw[Hb.out]at heq
  have HEQ:=Lib.hid heq
  have HB3:=Lib.hid hB3
  have HO3:Hid (w3.ownsRow w.heap.size 100 2 ov (outD D).length (ents (outD D))):=qap HOV.out hb3
  have hgo3:w.heap.size+1+1<w3.heap.size:=Nat.lt_of_lt_of_le (qac HGO.out) hb3.size
  clear hc hb3 hll hB3 heq
  go_wp2_with fail
  refine HEQ.out.mono ?_
  rintro e w4 ⟨rfl,hb4⟩
  have k4:w4.cell? ⟨w.heap.size+1+1,0,none⟩=some ov:=(hb4.cell (p:=⟨w.heap.size+1+1,0,none⟩) hgo3).trans ko
  have HB4:Hid (Below w.heap.size w w4):=Below.step HB3.out hb4
  have HO4:Hid (w4.ownsRow w.heap.size 100 2 ov (outD D).length (ents (outD D))):=qap HO3.out hb4
  clear hb4
  cases b with
  | true=>
   have HRES:Hid (qjn D w (.returned (.tuple #[ov,.int .i64 0])) w4):=by
    refine Or.inl ⟨(qcs D).2 ⟨HH.out.1,HH.out.2.1,HR.out,?_⟩,⟨ov,rfl,HO4.out,HB4.out⟩⟩
    have:=Hb.out
    unfold qtl at this
    simpa using this
   go_wp2
   go_returns
   exact HRES.out
  | false=>
   have HRES:Hid (qjn D w (.returned (.tuple #[.slice none 0 0,.int .i64 3])) w4):=by
    refine Or.inr ⟨?_,⟨rfl,HB4.out⟩⟩
    cases hq:qcn D with
    | false=>rfl
    | true=>
     have h1:=((qcs D).1 hq).2.2.2
     have:=Hb.out
     unfold qtl at this
     simp[h1]at this
   go_wp2
   go_returns
   exact HRES.out
 ·obtain⟨r,Hr⟩:∃ r,Hid (qct (outD D)=r):=⟨_,rfl⟩
  have hrr:=hr
  rw[Hr.out]at hrr
  have HL:=Lib.hid (ybyk ov (outD D) w2 hei (by rw[HOL.out];omega) r Hr.out hrr)
  have HR:=Lib.hid hr
  clear h2 hgo hgb hov hB2 hei hr
  go_wp2_with fail
  refine HL.out.mono ?_
  rintro e w3 ⟨rfl,hb3⟩
  have HB3:Hid (Below w.heap.size w w3):=Below.step HB2.out hb3
  have HRES:Hid (qjn D w (.returned (.tuple #[.slice none 0 0,.int .i64 3])) w3):=by
   refine Or.inr ⟨?_,⟨rfl,HB3.out⟩⟩
   cases hq:qcn D with
   | false=>rfl
   | true=>exact absurd ((qcs D).1 hq).2.2.1 HR.out
  clear hb3
  go_wp2
  go_returns
  exact HRES.out
theorem qqg (v:Value) (D:List Int) (w:World) (h:qbk w v D) (hD:qer D) (hl:D.length<=1000000):Calls Tryz.prog 31 #[v] w (qjn D w):=by
 by_cases hm:D.length % 16=0/\D.length<=512
 ·exact ybmy v D w h hD hm.1 hm.2
 ·refine (ybmx v D w h hl (by omega)).mono fun e w' hb=>Or.inr ⟨?_,hb⟩
  cases hq:qcn D with
  | false=>rfl
  | true=>exact absurd ⟨((qcs D).1 hq).1,((qcs D).1 hq).2.1⟩ hm
end Go.Proofs.YtpoglnpjadmbpaaGreatDoor
