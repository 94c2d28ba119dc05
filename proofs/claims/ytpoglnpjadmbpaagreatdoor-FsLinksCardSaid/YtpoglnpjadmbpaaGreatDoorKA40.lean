/- Part of the proofs of FsLinks: the texts FsI, FsJ, FsE. -/
import Derived.Test.YtpoglnpjadmbpaaGreatDoorKA39
set_option maxHeartbeats 16000000
set_option maxRecDepth 100000
namespace Go.Proofs.YtpoglnpjadmbpaaGreatDoor
open Go.RowKit
theorem ybfn {w w':World} {F F':Nat->Prop} {φ:World->Prop} (h:Out F w φ) (hk:qab F w w') (hF:∀ i,F' i->F i\/w.heap.size<=i):Out F' w' φ:=fun w2 k2=>h w2 (hk.trans k2 hF)
theorem ybtm {w w':World} {F F':Nat->Prop} {E:List Nd} {L:List Pn} (h:qbo F w E L) (hk:qab F w w') (hF:∀ i,F' i->F i\/w.heap.size<=i):qbo F' w' E L:=
 ⟨h.1,fun i h1 h2=>by
  obtain⟨e1,e2,e3,e4,e5,e6,e7,e8⟩:=h.2 i h1 h2
  exact⟨e1,e2,e3,e4,e5,e6,e7,ybfn e8 hk hF⟩⟩
theorem ybkt : ∃ Z PL:Array _,Z.size=198/\PL[0]? = some (0,1)/\PL[1]? = some (1,1)/\PL[2]? = some (2,192)/\PL[3]? = some (194,1)/\PL[4]? = some (195,1)/\PL[5]? = some (196,1)/\PL[6]? = some (197,1) /\
  ∀ parts,Tryz.prog.built 96 parts=Instr.fill (PL[·]?) Z parts:=
 ⟨((Tryz.prog.info? 96).bind (·.zero)).get!.cells,#[(0,1),(1,1),(2,192),(194,1),(195,1),(196,1),(197,1)],by kernel_rfl,rfl,rfl,rfl,rfl,rfl,rfl,rfl,fun _=>by kernel_rfl⟩
theorem ybqx (p l:Addr) (fo:Fo) (q3 q4:Option Addr) (n3 n4 c3 c4 gd gh:Nat):Tryz.prog.built 96 [(0,.pointer (some p)),(1,.pointer (some l)),(2,.agg (encF fo)),(3,.slice q3 n3 c3),(4,.slice q4 n4 c4),(5,.map (some gd)),(6,.map (some gh))] =
  some (fsR (.pointer (some p)) (.pointer (some l)) fo (.slice q3 n3 c3) (.slice q4 n4 c4) (.map (some gd)) (.map (some gh))):=by
 obtain⟨Z,PL,hZ,p0,p1,p2,p3,p4,p5,p6,hb⟩:=ybkt
 have hA:(encF fo).size=192:=qak fo
 have hg:∀ i,2<=i->i<194->(encF fo)[i - 2]? = some (qdb fo ((i - 2) / 48) ((i - 2) % 48)):=fun i h1 h2=>by
  have:=qbz fo ((i - 2) / 48) ((i - 2) % 48) (by omega) (by omega)
  rwa [show (i - 2) / 48*48+(i - 2) % 48=i - 2 by omega]at this
 generalize encF fo=A at hA hg ⊢
 obtain⟨c1,s1,g1,e1⟩:=qcl (n:=198) (place:=(PL[·]?)) (k:=0) (cells:=Z) (rest:=[(1,.pointer (some l)),(2,.agg A),(3,.slice q3 n3 c3),(4,.slice q4 n4 c4),(5,.map (some gd)),(6,.map (some gh))]) (.pointer (some p)) 0 #[.pointer (some p)] rfl p0 hZ (by simp)
 obtain⟨c2,s2,g2,e2⟩:=qcl (n:=198) (place:=(PL[·]?)) (k:=1) (cells:=c1) (rest:=[(2,.agg A),(3,.slice q3 n3 c3),(4,.slice q4 n4 c4),(5,.map (some gd)),(6,.map (some gh))]) (.pointer (some l)) 1 #[.pointer (some l)] rfl p1 s1 (by simp)
 obtain⟨c3',s3,g3,e3⟩:=qcl (n:=198) (place:=(PL[·]?)) (k:=2) (cells:=c2) (rest:=[(3,.slice q3 n3 c3),(4,.slice q4 n4 c4),(5,.map (some gd)),(6,.map (some gh))]) (.agg A) 2 A rfl (by rw[hA];exact p2) s2 (by rw[hA];omega)
 obtain⟨c4',s4,g4,e4⟩:=qcl (n:=198) (place:=(PL[·]?)) (k:=3) (cells:=c3') (rest:=[(4,.slice q4 n4 c4),(5,.map (some gd)),(6,.map (some gh))]) (.slice q3 n3 c3) 194 #[.slice q3 n3 c3] rfl p3 s3 (by simp)
 obtain⟨c5,s5,g5,e5⟩:=qcl (n:=198) (place:=(PL[·]?)) (k:=4) (cells:=c4') (rest:=[(5,.map (some gd)),(6,.map (some gh))]) (.slice q4 n4 c4) 195 #[.slice q4 n4 c4] rfl p4 s4 (by simp)
 obtain⟨c6,s6,g6,e6⟩:=qcl (n:=198) (place:=(PL[·]?)) (k:=5) (cells:=c5) (rest:=[(6,.map (some gh))]) (.map (some gd)) 196 #[.map (some gd)] rfl p5 s5 (by simp)
 obtain⟨c7,s7,g7,e7⟩:=qcl (n:=198) (place:=(PL[·]?)) (k:=6) (cells:=c6) (rest:=[]) (.map (some gh)) 197 #[.map (some gh)] rfl p6 s6 (by simp)
 rw[hb]
 rw[e1]
 rw[e2]
 rw[e3]
 rw[e4]
 rw[e5]
 rw[e6]
 rw[e7]
 rw[Instr.fill]
 refine congrArg some ?_
 clear e1 e2 e3 e4 e5 e6 e7 hb p0 p1 p2 p3 p4 p5 p6
 apply Array.ext_getElem?
 intro i
 by_cases hi:i<198
 ·rw[qiu _ _ _ _ _ _ _ _ hi]
  simp only[List.size_toArray,List.length_cons,List.length_nil,hA]at g1 g2 g3 g4 g5 g6 g7
  rw[g7,g6,g5,g4,g3,g2,g1]
  unfold qkw
  by_cases h1:194<=i
  ·have:i=194\/i=195\/i=196\/i=197:=by omega
   rcases this with rfl | rfl | rfl | rfl <;> simp
  ·rw[if_neg (by omega),if_neg (by omega),if_neg (by omega),if_neg (by omega)]
   by_cases h0:i=0
   ·subst h0;simp
   ·by_cases h3:i=1
    ·subst h3;simp
    ·rw[if_pos (by omega),if_neg h0,if_neg h3,if_pos (by omega),hg i (by omega) (by omega)]
 ·rw[Array.getElem?_eq_none (by omega),Array.getElem?_eq_none (by rw[qgi];omega)]
theorem qza {E:List Nd} (h:∀ x ∈ E,x.k=0\/x.l ≠ 0):∀ n,qid E [] n=[]
 | 0=>rfl
 | n+1=>by
  unfold qid
  rw[qza h n]
  cases hx:E[n]? with
  | none=>rfl
  | some x=>
   have:=h x (List.mem_of_getElem? hx)
   have hb:ybnb x [] ((n:Int)+1)=false:=by
    unfold ybnb
    rcases this with h1 | h1
    ·simp[h1]
    ·have:(x.l == 0)=false:=by simpa using h1
     simp[this]
   simp[hb]
theorem ybfk {w:World} {a:Addr} {st:Dk} {k:Nat} {F:Nat->Prop} (h:qaw w (.pointer (some a)) st k F) (hk:64<=k) (hk2:k<=256) (st':Dk) (sq:Int)
  (hopen:∀ W:World,Below w.heap.size w W->Calls Tryz.prog 70 #[.pointer (some a),.int .i64 5,.int .i64 32] W fun e w'=>∃ gl,e=.returned (.tuple #[.pointer (some ⟨gl,0,none⟩),.int .i64 0])/\LogK a st' k sq F gl W w')
  (hm:sec st.N 0=qfv k) (hby:∀ n,n<k->∀ x ∈ sec st'.N n,0<=x/\x<=255) (f:Fo) (hld:qlv (sec st'.N) f k) (htr:qlz (sec st'.N) (f.nd 0) k) (hq:qjq (sec st'.N 4)) (hq0:qfj (sec st'.N 4)=[]) (hlost:∀ X ∈ qfk (sec st'.N) (f.nd 0) 32,X.k=0\/X.l ≠ 0):
  Calls Tryz.prog 27 #[.pointer (some a)] w
   (fun e w'=>∃ gf F',e=.returned (.tuple #[.pointer (some ⟨gf,0,none⟩),.int .i64 0])/\FsAt w' gf ⟨st',k,sq,f,[],qfk (sec st'.N) (f.nd 0) 32,[]⟩ F' w'.heap.size a/\qab F w w'/\(∀ i,F' i->F i\/w.heap.size<=i)):=by
 have H:=Lib.hid h
 have hrd:=qka h 0 (by omega)
 rw[hm]at hrd
 have HRD:=Lib.hid hrd
 have HSZ:=Lib.hid (fun (W:World) (hW:Below w.heap.size w W)=>qfz (h.below hW))
 have HOP:=Lib.hid hopen
 have HBY:=Lib.hid hby
 have HLD:=Lib.hid hld
 have HTR:=Lib.hid htr
 have HQ:=Lib.hid hq
 have HQ0:=Lib.hid hq0
 have HLO:=Lib.hid hlost
 have d1:decide ((k:Int)<64)=false:=decide_eq_false (by omega)
 have d2:¬ ((k:Int)<64):=by omega
 have d3:¬ (k<64):=by omega
 clear h hrd hopen hby hld htr hq hq0 hlost hm
 go_enter Tryz.func27,Tryz.ntmps27
 go_wp2_with fail
 refine HRD.out.mono ?_
 rintro e w1 ⟨v1,rfl,hv1⟩
 have HB1:=Lib.hid hv1.below
 have HV1:=Lib.hid hv1.at
 clear hv1
 go_wp2_with fail
 refine (HSZ.out w1 HB1.out).mono ?_
 rintro e w2 ⟨rfl,rfl⟩
 go_wp2_with fail
 refine (HSZ.out w1 HB1.out).mono ?_
 rintro e w2 ⟨rfl,rfl⟩
 go_wp2_with fail
 refine (qwk k (by omega) w1).mono ?_
 rintro e w2 ⟨v2,rfl,hv2⟩
 have HB2:=Lib.hid (Below.step HB1.out hv2.below)
 have HEQ:=Lib.hid (qdy v1 v2 (qfv k) (qfv k) w2 (qai.below HV1.out hv2.below) hv2.at rfl (by rw[qgx];omega))
 rw[show eqB (qfv k) (qfv k)=true by unfold eqB;simp]at HEQ
 clear hv2
 go_wp2_with fail
 refine HEQ.out.mono ?_
 rintro e w3 ⟨rfl,hb3⟩
 have HB3:=Lib.hid (Below.step HB2.out hb3)
 clear hb3 HEQ
 go_wp2_with fail
 refine (HOP.out w3 HB3.out).mono ?_
 rintro e w4 ⟨gl,rfl,F1,y1,y2,y3,y4,y5,y6⟩
 have HY:Hid ((∀ i,F1 i->F i\/w3.heap.size<=i)/\¬ F1 gl/\qab F w3 w4/\w4.heap[gl]? = some (.cells (logR a sq) 165 (0,0))/\w3.heap.size<=gl):=⟨y2,y3,y4,y5,y6⟩
 have HD4:=Lib.hid y1
 have HRR:=Lib.hid (ybvy y1 HBY.out)
 have hlo:=ybfi (ybvy y1 HBY.out) (by omega) f HLD.out
 obtain⟨A,HA⟩:∃ A,Hid (encF f=A):=⟨_,rfl⟩
 rw[HA.out]at hlo
 have HLOD:Hid (Calls Tryz.prog 36 #[.iface 25 (.pointer (some a))] w4 (fun e w'=>e=.returned (.tuple #[.agg A,.int .i64 0])/\Below w4.heap.size w4 w')):=hlo
 have HAS:Hid (A.size=192):=by rw[<-HA.out];exact qak _
 have HA1:Hid (A.all (·.oneCell')=true):=by rw[<-HA.out];exact qis _
 clear y1 y2 y3 y4 y5 y6 hlo
 go_wp2_with fail
 refine HLOD.out.mono ?_
 rintro e w5 ⟨rfl,hb5⟩
 have HB5:=Lib.hid hb5
 clear hb5
 obtain⟨Z0,HZ0⟩:∃ Z,Hid (Z=encF qiq):=⟨_,rfl⟩
 have HZV:Hid (∀ w,(zeroValue 80).run Tryz.prog w=.ok (.agg Z0) w):=by rw[HZ0.out];exact forZ
 have HZS:Hid (Z0.size=192):=by rw[HZ0.out];exact qak _
 have HF6:Hid (((w5.alloc (.cells Z0 80)).setRow w5.heap.size A).heap[w5.heap.size]? = some (.cells A 80 (0,0))):=setRow_heap _ _ _ _ _ _ (heap_alloc_new _ _)
 have HB6:Hid (Below w5.heap.size w5 ((w5.alloc (.cells Z0 80)).setRow w5.heap.size A)):=Below.setRow ((Below.refl _ _).alloc (Nat.le_refl _) _) (Nat.le_refl _) _
 go_upto_region 10 with (first
  | (refine qbh rfl 80 rfl Z0 HZV.out ?_)
  | (refine wpList_store_row rfl 80 (.tmp 7) (.tmp 48) rfl w5.heap.size A rfl rfl 80 Z0 (heap_alloc_new _ _) (by rw[HAS.out];exact forI) (by rw[HZS.out,HAS.out]) HA1.out ?_))
 obtain⟨gF,HgF⟩:∃ x,Hid (w5.heap.size=x):=⟨_,rfl⟩
 have HB46:Hid (Below w4.heap.size w4 ((w5.alloc (.cells Z0 80)).setRow w5.heap.size A)):=Below.step HB5.out HB6.out
 clear HB6
 rw[HgF.out]at HF6 HB46 ⊢
 generalize (w5.alloc (.cells Z0 80)).setRow gF A=w6 at *
 obtain⟨TT,HT⟩:∃ T,Hid (T=encT f 0):=⟨_,rfl⟩
 have HTS:Hid (TT.size=48):=by rw[HT.out];exact qgs _ _
 have HTP:Hid (∀ j,j<TT.size->A[0+j]? = TT[j]?):=by
  rw[HT.out,<-HA.out]
  have h2:∀ j,j<(encT f 0).size->(encF f)[0+j]? = (encT f 0)[j]? :=by
   have:=qsk f 0 (by omega)
   simpa using this
  exact h2
 have htr:=ybgf (HRR.out.below HB46.out) f 0 HTR.out
 rw[<-HT.out]at htr
 have HTRE:Hid (Calls Tryz.prog 71 #[.iface 25 (.pointer (some a)),.agg TT] w6 (fun e w'=>∃ v,e=.returned (.tuple #[v,.int .i64 0])/\ybeb w6 v (qfk (sec st'.N) (f.nd 0) 32) w')):=htr
 clear htr
 go_wp2_with (refine qar (by kernel_rfl) 78 (.tmp 56) rfl gF 0 rfl 80 A TT (0,0) _ HF6.out HTP.out Tryz.underlying78 rfl (by rw[HTS.out];exact ybjp) ?_)
 refine HTRE.out.mono ?_
 rintro e w7 ⟨v7,rfl,E,ho7,hn7,hb7⟩
 obtain⟨L,HL⟩:∃ L,Hid (qfk (sec st'.N) (f.nd 0) 32=L):=⟨_,rfl⟩
 rw[HL.out]at HLO ho7 hn7
 have HLL:Hid (L.length=32):=by show _=_;rw[<-HL.out];exact qta _ _ _
 have hE32:E.length=32:=by rw[hn7.1,HLL.out]
 have HO7:=Lib.hid ho7
 have HN7:=Lib.hid hn7
 have HB7:Hid (Below w4.heap.size w4 w7):=Below.step HB46.out hb7
 have HF7:=Lib.hid (qaa hb7 HF6.out)
 obtain⟨qn,cn,rfl,HQN⟩:=qat ho7
 obtain⟨gn,rfl,hgn,_⟩:=HQN (by rw[HLL.out];omega)
 have HGN:Hid (w6.heap.size<=gn/\gn<w7.heap.size):=⟨by omega,(ho7.lt gn rfl).2⟩
 rw[HLL.out]at HO7 ⊢
 clear hb7 ho7 hn7 HQN hgn
 have HRD7:=Lib.hid (qka (HD4.out.below HB7.out) 4 (by omega))
 have HL4:Hid ((sec st'.N 4).length=64):=qhu HD4.out.lens.2 (by omega)
 have HY4:=Lib.hid (HBY.out 4 (by omega))
 go_wp2_with fail
 refine HRD7.out.mono ?_
 rintro e w8 ⟨v8,rfl,hv8⟩
 have HB8:=Lib.hid (Below.step HB7.out hv8.below)
 have HB78:=Lib.hid hv8.below
 have HUN:=Lib.hid (qte v8 (sec st'.N 4) w8 hv8.at HY4.out (by rw[HL4.out];omega))
 clear hv8
 go_wp2_with fail
 refine HUN.out.mono ?_
 rintro e w9 (⟨_,u,rfl,hu,hb9⟩ | ⟨hng,_⟩)
 case inr=>exact absurd HQ.out hng
 have HB9:=Lib.hid (Below.step HB8.out hb9)
 have HB79:Hid (Below w7.heap.size w7 w9):=Below.step HB78.out hb9
 rw[HQ0.out]at hu
 obtain⟨qr,cr,rfl⟩:∃ qr cr,u=.slice qr 0 cr:=by
  obtain⟨_,⟨h0,a0,c0,rfl⟩ | ⟨g,o,cap,rfl,_⟩⟩:=hu
  ·exact⟨a0,c0,rfl⟩
  ·exact⟨_,_,rfl⟩
 have HF9:=Lib.hid (qaa HB79.out HF7.out)
 clear hb9 hu HUN HRD7 HTRE
 have hmm1:∀ W:World,(Instr.makeMap 93 none).run Tryz.prog W=.ok (.map (some W.heap.size)) (W.alloc (.map #[] 0)):=fun _=>rfl
 have hmm2:∀ W:World,(Instr.makeMap 94 none).run Tryz.prog W=.ok (.map (some W.heap.size)) (W.alloc (.map #[] 0)):=fun _=>rfl
 obtain⟨bt,Hbt⟩:∃ x,Hid (w9.heap.size=x):=⟨_,rfl⟩
 obtain⟨R,HR⟩:∃ R,Hid (fsR (.pointer (some a)) (.pointer (some ⟨gl,0,none⟩)) f (.slice qr 0 cr) (.slice (some ⟨gn,0,none⟩) 32 cn) (.map (some w9.heap.size)) (.map (some (w9.heap.size+1)))=R):=⟨_,rfl⟩
 have HBF:Hid (Tryz.prog.built 96 [(0,.pointer (some a)),(1,.pointer (some ⟨gl,0,none⟩)),(2,.agg A),(3,.slice qr 0 cr),(4,.slice (some ⟨gn,0,none⟩) 32 cn),(5,.map (some w9.heap.size)),(6,.map (some (w9.heap.size+1)))]=some R):=by
  show _=_
  rw[<-HA.out,<-HR.out]
  exact ybqx a ⟨gl,0,none⟩ f qr (some ⟨gn,0,none⟩) 0 32 cr cn _ _
 go_wp2_with (first
  | (refine wpList_load_row rfl 80 (.tmp 7) rfl gF rfl 80 A (0,0) _ HF9.out forT rfl (by rw[HAS.out];exact forI) ?_)
  | (refine wpList_plain rfl fun K hK=>qtg 96 _ rfl #[(0,.pointer (some a)),(1,.pointer (some ⟨gl,0,none⟩)),(2,.agg A),(3,.slice qr 0 cr),(4,.slice (some ⟨gn,0,none⟩) 32 cn),(5,.map (some w9.heap.size)),(6,.map (some (w9.heap.size+1)))] (by simp only[List.map_toArray,List.map_cons,List.map_nil,Act.eval];rfl) R HBF.out (hK _ _ ?_))
  | (refine wpList_plain rfl fun K hK=>ybas 96 (.tmp 83) rfl R rfl (hK _ _ ?_)))
 have HB10:Hid (Below w9.heap.size w9 (((w9.alloc (.map #[] 0)).alloc (.map #[] 0)).alloc (.cells R 96))):=(((Below.refl _ _).alloc (Nat.le_refl _) _).alloc (by simp) _).alloc (by simp;omega) _
 have hs1:(w9.alloc (.map #[] 0)).heap.size=w9.heap.size+1:=by simp
 have hs2:((w9.alloc (.map #[] 0)).alloc (.map #[] 0)).heap.size=w9.heap.size+1+1:=by simp
 have HR10:Hid ((((w9.alloc (.map #[] 0)).alloc (.map #[] 0)).alloc (.cells R 96)).heap[w9.heap.size+1+1]? = some (.cells R 96 (0,0))):=by
  rw[<-hs2]
  exact heap_alloc_new _ _
 have HMB:Hid (MapL Tryz.prog 3 (((w9.alloc (.map #[] 0)).alloc (.map #[] 0)).alloc (.cells R 96)) w9.heap.size []):=(MapL.made w9).of_block ((heap_alloc_old _ _ (by rw[hs2];omega)).trans (heap_alloc_old _ _ (by rw[hs1];omega)))
 have HMH:Hid (MapL Tryz.prog 3 (((w9.alloc (.map #[] 0)).alloc (.map #[] 0)).alloc (.cells R 96)) (w9.heap.size+1) []):=by
  have:=MapL.made (P:=Tryz.prog) (K:=3) (w9.alloc (.map #[] 0))
  rw[hs1]at this
  exact this.of_block (heap_alloc_old _ _ (by rw[hs2];omega))
 have HS10:Hid ((((w9.alloc (.map #[] 0)).alloc (.map #[] 0)).alloc (.cells R 96)).heap.size=w9.heap.size+1+1+1):=by show _=_;simp
 clear hs1 hs2 hmm1 hmm2
 generalize ((w9.alloc (.map #[] 0)).alloc (.map #[] 0)).alloc (.cells R 96)=w10 at *
 have HB7x:Hid (Below w7.heap.size w7 w10):=Below.step HB79.out HB10.out
 have HO10:=Lib.hid (qap HO7.out HB7x.out)
 have hlost2:∀ x ∈ E,x.k=0\/x.l ≠ 0:=fun x hx=>by
  obtain⟨i,hi,rfl⟩:=List.mem_iff_getElem.1 hx
  have hi2:i<L.length:=by rw[<-HN7.out.1];exact hi
  obtain⟨f0,f1,f2,f3,f4,f5,_⟩:=HN7.out.2 i hi hi2
  rw[f0,f5]
  exact HLO.out _ (List.getElem_mem hi2)
 have hlo:=ybtj (.slice (some ⟨gn,0,none⟩) 32 cn) (.slice none 0 0) E [] w10 (by rw[hE32];exact qai.of_owns HO10.out) ⟨rfl,Or.inl ⟨rfl,_,_,rfl⟩⟩ (by omega) (by simp)
 rw[qza hlost2]at hlo
 have HLS:=Lib.hid hlo
 clear hlo hlost2
 go_wp2_with fail
 refine HLS.out.mono ?_
 rintro e w11 ⟨r,rfl,hr11,hb11⟩
 obtain⟨qx,cx,rfl,_⟩:=qat hr11
 have HB11:=Lib.hid hb11
 clear hr11 hb11 HLS
 rw[show (([]:List Int).length)=0 from rfl]
 go_wp2
 go_loopw [88] (fun iv wq=>iv=.int .i64 0/\wq=w11) (fun _ _=>0)
 case atStart=>exact⟨rfl,rfl⟩
 case round=>
  obtain⟨rfl,hwr⟩:=hrel
  subst hwr
  go_wp2
  go_ret2
  have hbx:Below w10.heap.size w10 wr:=HB11.out
  have hb9x:Below w9.heap.size w9 wr:=Below.step HB10.out hbx
  have hb7x:Below w7.heap.size w7 wr:=Below.step HB7x.out hbx
  have hb4x:Below w4.heap.size w4 wr:=Below.step HB9.out hb9x
  have hs4:w4.heap.size<=w6.heap.size:=HB46.out.size
  have hs6:w6.heap.size<=w7.heap.size:=by have:=HGN.out;omega
  have hs7:w7.heap.size<=w9.heap.size:=HB79.out.size
  have hs11:w9.heap.size+1+1+1<=wr.heap.size:=by rw[<-HS10.out];exact hbx.size
  have hgl4:gl<w4.heap.size:=qac HY.out.2.2.2.1
  have hD:=HD4.out.below hb4x
  have hF1:∀ i,F1 i->i<w4.heap.size:=HD4.out.fin
  have hFp:∀ i,(F1 i\/i=gl\/i=w9.heap.size+1+1\/i=w9.heap.size\/i=w9.heap.size+1)->i<w6.heap.size\/w7.heap.size<=i:=fun i hi=>by
   rcases hi with hi | rfl | rfl | rfl | rfl
   ·exact Or.inl (Nat.lt_of_lt_of_le (hF1 i hi) hs4)
   ·exact Or.inl (by omega)
   ·exact Or.inr (by omega)
   ·exact Or.inr (by omega)
   ·exact Or.inr (by omega)
  have hFl:∀ i,(F1 i\/i=gl\/i=w9.heap.size+1+1\/i=w9.heap.size\/i=w9.heap.size+1)->i<wr.heap.size:=fun i hi=>by
   rcases hi with hi | rfl | rfl | rfl | rfl
   ·have:=hF1 i hi;omega
   ·omega
   ·omega
   ·omega
   ·omega
  have hw3:w.heap.size<=w3.heap.size:=HB3.out.size
  have hrow:=qaa hbx HR10.out
  rw[<-HR.out]at hrow
  refine⟨w9.heap.size+1+1,fun i=>F1 i\/i=gl\/i=w9.heap.size+1+1\/i=w9.heap.size\/i=w9.heap.size+1,rfl,⟨⟨gl,_,_,w9.heap.size,w9.heap.size+1,E,[],F1,hrow,hD,fun i hi=>Or.inl hi,HY.out.2.1,qaa hb4x HY.out.2.2.2.1,Or.inr (Or.inl rfl),fun _ _=>⟨rfl,Or.inl ⟨rfl,_,_,rfl⟩⟩,?_,?_,HMB.out.of_block (hbx.block _ HMB.out.lt),qas.nil _ _,Or.inr (Or.inr (Or.inr (Or.inl rfl))),by omega,fun hc=>by have:=hF1 _ hc;omega,HMH.out.of_block (hbx.block _ HMH.out.lt),Or.inr (Or.inr (Or.inr (Or.inr rfl))),fun hc=>by have:=hF1 _ hc;omega⟩,Or.inr (Or.inr (Or.inl rfl)),by rw[HL.out];exact HLL.out,hFl,hFl,hk,hk2,by show (0:Nat)<=20;omega⟩,?_,fun i hi=>?_⟩
  ·have h1:=ybfo (G:=fun i=>i<w6.heap.size) HO7.out (fun b hb=>by injection hb with hb;rw[<-hb];have:=HGN.out.1;show ¬ (gn<_);omega)
   have h2:=ybfn h1 (qab.of_below hb7x) hFp
   rw[hE32]
   exact h2.mono fun _ hh=>qai.of_owns hh
  ·rw[HL.out]
   exact ybtm HN7.out (qab.of_below hb7x) fun i hi=>(hFp i hi).imp (fun h=>Or.inl h) id
  ·exact ((qab.of_below HB3.out).step HY.out.2.2.1).step (qab.of_below hb4x)
  ·rcases hi with hi | rfl | rfl | rfl | rfl
   ·exact (HY.out.1 i hi).imp id fun h=>Nat.le_trans hw3 h
   ·exact Or.inr (Nat.le_trans hw3 HY.out.2.2.2.2)
   all_goals exact Or.inr (by have:=HY.out.2.2.1.size;omega)
theorem qep {st:Dk} (h:st.fu = -1) (n:Nat) (D:List Int):(qcb st n D).fu = -1/\(qcb st n D).N=putS st.N n D:=by
 unfold qcb
 rw[if_neg (by rw[h];decide)]
 refine⟨?_,rfl⟩
 show decF st.fu = -1
 rw[h];rfl
theorem zE_at (k:Nat):∀ j,j<=k->(zE (qbr k) j).fu = -1/\(zE (qbr k) j).N.length=64*k/\∀ n,n<k->sec (zE (qbr k) j).N n=qdg
 | 0,_=>⟨rfl,by show (List.replicate _ _).length=_;simp,fun n hn=>by
  show sec (List.replicate (64*k) 0) n=qdg
  unfold sec qdg
  rw[List.drop_replicate,List.take_replicate]
  congr 1
  omega⟩
 | j+1,hj=>by
  obtain⟨h1,h2,h3⟩:=zE_at k j (by omega)
  obtain⟨e1,e2⟩:=qep h1 j qdg
  refine⟨e1,?_,fun n hn=>?_⟩
  ·show (qcb (zE (qbr k) j) j qdg).N.length=_
   rw[e2]
   exact qgk h2 (by omega) (by simp[qdg])
  ·show sec (qcb (zE (qbr k) j) j qdg).N n=_
   rw[e2]
   by_cases hnj:n=j
   ·subst hnj;exact qfw h2 hn (by simp[qdg])
   ·rw[qfa h2 (by omega) hn (by simp[qdg]) hnj];exact h3 n hn
theorem ybxo (k:Nat) (hk:64<=k) (b:List Int) (hb:b.length=192):∀ j,j<=3->(fE (zE (qbr k) k) b j).fu = -1/\(fE (zE (qbr k) k) b j).N.length=64*k/\∀ n,n<k->sec (fE (zE (qbr k) k) b j).N n=if 1<=n/\n<1+j then sec b (n - 1) else qdg
 | 0,_=>by
  obtain⟨h1,h2,h3⟩:=zE_at k k (Nat.le_refl _)
  exact⟨h1,h2,fun n hn=>by rw[if_neg (by omega)];exact h3 n hn⟩
 | j+1,hj=>by
  obtain⟨h1,h2,h3⟩:=ybxo k hk b hb j (by omega)
  have hl:(sec b j).length=64:=qhu (k:=3) hb (by omega)
  obtain⟨e1,e2⟩:=qep h1 (1+j) (sec b j)
  refine⟨e1,?_,fun n hn=>?_⟩
  ·show (qcb (fE (zE (qbr k) k) b j) (1+j) (sec b j)).N.length=_
   rw[e2]
   exact qgk h2 (by omega) hl
  ·show sec (qcb (fE (zE (qbr k) k) b j) (1+j) (sec b j)).N n=_
   rw[e2]
   by_cases hnj:n=1+j
   ·subst hnj
    rw[qfw h2 hn hl,if_pos (by omega),show 1+j - 1=j by omega]
   ·rw[qfa h2 (by omega) hn hl hnj,h3 n hn]
    by_cases hc:1<=n/\n<1+j
    ·rw[if_pos hc,if_pos (by omega)]
    ·rw[if_neg hc,if_neg (by omega)]
def fmtS (k n:Nat):List Int:=if n=0 then qfv k else if n=37 then qil else if 1<=n/\n<4 then sec (qbs (qay 16)) (n - 1) else qdg
theorem yblm (k:Nat) (hk:64<=k) (n:Nat) (hn:n<k):sec (fmtE (qbr k) k).N n=fmtS k n:=by
 obtain⟨h1,h2,h3⟩:=ybxo k hk (qbs (qay 16)) (qgy _) 3 (by omega)
 obtain⟨e1,e2⟩:=qep h1 37 qil
 obtain⟨g1,g2⟩:=qep e1 0 (qfv k)
 have hl2:(qcb (fE (zE (qbr k) k) (qbs (qay 16)) 3) 37 qil).N.length=64*k:=by rw[e2];exact qgk h2 (by omega) qhb
 have hf:(fmtE (qbr k) k).N=putS (putS (fE (zE (qbr k) k) (qbs (qay 16)) 3).N 37 qil) 0 (qfv k):=by
  unfold fmtE qfu
  rw[if_neg (by rw[g1];decide)]
  show (qcb (qcb (fE (zE (qbr k) k) (qbs (qay 16)) 3) 37 qil) 0 (qfv k)).N=_
  rw[g2,e2]
 rw[hf,<-e2]
 unfold fmtS
 by_cases h0:n=0
 ·subst h0
  rw[if_pos rfl,qfw hl2 hn (qgx k)]
 ·rw[if_neg h0,qfa hl2 (by omega) hn (qgx k) h0,e2]
  by_cases h37:n=37
  ·subst h37
   rw[if_pos rfl,qfw h2 hn qhb]
  ·rw[if_neg h37,qfa h2 (by omega) hn qhb h37,h3 n hn]
theorem fmt_st (k:Nat) (hk:64<=k):(fmtE (qbr k) k).fu = -1/\(fmtE (qbr k) k).W=[]/\(fmtE (qbr k) k).N.length=64*k/\(fmtE (qbr k) k).S=(fmtE (qbr k) k).N:=by
 obtain⟨h1,h2,h3⟩:=ybxo k hk (qbs (qay 16)) (qgy _) 3 (by omega)
 obtain⟨e1,e2⟩:=qep h1 37 qil
 obtain⟨g1,g2⟩:=qep e1 0 (qfv k)
 have hl2:(qcb (fE (zE (qbr k) k) (qbs (qay 16)) 3) 37 qil).N.length=64*k:=by rw[e2];exact qgk h2 (by omega) qhb
 unfold fmtE qfu
 rw[if_neg (by rw[g1];decide)]
 refine⟨?_,rfl,?_,rfl⟩
 ·show decF _ = -1
  rw[g1];rfl
 ·show (qcb (qcb (fE (zE (qbr k) k) (qbs (qay 16)) 3) 37 qil) 0 (qfv k)).N.length=_
  rw[g2]
  exact qgk hl2 (by omega) (qgx k)
def qov : Pn:=⟨2,493,0,0,0,1,1,[]⟩
def qkz : List Pn:=qov :: List.replicate 31 zN
theorem ybsc : pnOf (half qil 0)=qov:=by kernel_rfl
theorem ybsd (i:Nat) (hi:i<2):half qdg i=List.replicate 32 0:=by
 have:i=0\/i=1:=by omega
 rcases this with rfl | rfl <;> rfl
theorem ybze : pnOf (List.replicate 32 0)=zN:=by kernel_rfl
theorem ybxt : encF (foB (qbs (qay 16)))=encF (qay 16):=by kernel_rfl
theorem ybsf : qbn (foB (qbs (qay 16)))=0:=by kernel_rfl
theorem yblr : qbd (qay 16) 0=true:=by kernel_rfl
theorem qmm : qbd (qay 16) 1=false/\qbd (qay 16) 2=false/\qbd (qay 16) 3=false:=⟨by kernel_rfl,by kernel_rfl,by kernel_rfl⟩
theorem ybjh : qmr (half qil 0):=⟨by kernel_rfl,by unfold qol;decide,by kernel_rfl,by kernel_rfl⟩
theorem ybqf : qmr (List.replicate 32 0):=⟨by kernel_rfl,by unfold qol;decide,by kernel_rfl,by kernel_rfl⟩
theorem qvj : qjq qdg:=⟨by kernel_rfl,by decide,by kernel_rfl,by kernel_rfl⟩
theorem ybqg : qfj qdg=[]:=by kernel_rfl
theorem ybbz (k n:Nat) (hn:n ≠ 0):fmtS k n=fmtS 64 n:=by unfold fmtS;rw[if_neg hn,if_neg hn]
theorem qml (k n:Nat) (h:4<=n) (h2:n ≠ 37):fmtS k n=qdg:=by unfold fmtS;rw[if_neg (by omega),if_neg h2,if_neg (by omega)]
theorem qjt (i:Nat) (hi:i<16):(qay 16).nd 0 i=((37+i:Nat):Int):=by
 show (if 0=0/\i<16 then _ else _)=_
 rw[if_pos ⟨rfl,hi⟩]
theorem qxu (k:Nat) (j:Nat) (hj:j<32):qhj (fmtS k) ((qay 16).nd 0) j=if j=0 then half qil 0 else List.replicate 32 0:=by
 unfold qhj
 rw[qjt _ (by omega),Int.toNat_natCast]
 by_cases h0:j=0
 ·subst h0
  rw[if_pos rfl]
  rfl
 ·rw[if_neg h0]
  by_cases h1:j=1
  ·subst h1
   show half qil 1=_
   unfold half qil
   rw[List.drop_append_of_le_length (by rw[qnj];omega),List.drop_of_length_le (by rw[qnj];omega)]
   rfl
  ·rw[qml k _ (by omega) (by omega)]
   exact ybsd _ (by omega)
theorem ybux (k:Nat) (hk:64<=k):qlz (fmtS k) ((qay 16).nd 0) k:=by
 refine⟨fun j hj=>?_,fun j hj=>?_⟩
 ·rw[qjt j hj];omega
 ·rw[qxu k j hj]
  split
  ·exact ybjh
  ·exact ybqf
theorem ybpq (k:Nat):qfk (fmtS k) ((qay 16).nd 0) 32=qkz:=by
 unfold qfk qkz
 apply List.ext_getElem
 ·simp
 ·intro i h1 h2
  have hi:i<32:=by simpa using h1
  rw[List.getElem_map,List.getElem_range,qxu k i hi]
  cases i with
  | zero=>exact ybsc
  | succ i=>
   rw[if_neg (by omega),List.getElem_cons_succ,List.getElem_replicate]
   exact ybze
theorem qyi (k:Nat):qfc (fmtS k)=qbs (qay 16):=by
 unfold qfc
 rw[ybbz k 1 (by omega),ybbz k 2 (by omega),ybbz k 3 (by omega)]
 show sec (qbs (qay 16)) 0++(sec (qbs (qay 16)) 1++sec (qbs (qay 16)) 2)=_
 kernel_rfl
theorem ybtf (k:Nat) (hk:64<=k):qlv (fmtS k) (qay 16) k:=by
 refine⟨by rw[qyi];exact ybxt,by rw[qyi];exact ybsf,yblr,fun t i ht hi hth=>?_⟩
 obtain⟨h1,h2,h3⟩:=qmm
 have:t=0\/t=1\/t=2\/t=3:=by omega
 rcases this with rfl | rfl | rfl | rfl
 ·rw[qjt i hi];omega
 ·rw[h1]at hth;cases hth
 ·rw[h2]at hth;cases hth
 ·rw[h3]at hth;cases hth
section
variable {N : Nat -> List Int} {k : Nat}
theorem ybtg (hk:64<=k) (hN:∀ n,n<k->N n=fmtS k n):qlv N (qay 16) k:=by
 have h:=ybtf k hk
 have e:qfc N=qfc (fmtS k):=by unfold qfc;rw[hN 1 (by omega),hN 2 (by omega),hN 3 (by omega)]
 exact⟨by rw[e];exact h.eq,by rw[e];exact h.right,h.root,h.nds⟩
theorem qxv (hk:64<=k) (hN:∀ n,n<k->N n=fmtS k n) (j:Nat) (hj:j<32):qhj N ((qay 16).nd 0) j=qhj (fmtS k) ((qay 16).nd 0) j:=by
 unfold qhj
 rw[qjt _ (by omega),Int.toNat_natCast,hN _ (by omega)]
theorem ybuy (hk:64<=k) (hN:∀ n,n<k->N n=fmtS k n):qlz N ((qay 16).nd 0) k:=by
 have h:=ybux k hk
 exact⟨h.1,fun j hj=>by rw[qxv hk hN j hj];exact h.2 j hj⟩
theorem ybai (hk:64<=k) (hN:∀ n,n<k->N n=fmtS k n):qfk N ((qay 16).nd 0) 32=qkz:=by
 rw[<-ybpq k]
 unfold qfk
 refine List.map_congr_left fun j hj=>?_
 rw[qxv hk hN j (by simpa using hj)]
end
def fs0 (k:Nat):Fs:=⟨fmtE (qbr k) k,k,0,qay 16,[],qkz,[]⟩
theorem ybeg (k n:Nat) (hk2:k<=256):∀ x ∈ fmtS k n,0<=x/\x<=255:=by
 have hb:∀ l:List Int,(l.all fun x=>decide (0<=x) && decide (x<=255))=true->∀ x ∈ l,0<=x/\x<=255:=fun l h x hx=>by
  have:=List.all_eq_true.1 h x hx
  simpa using this
 have hz:(qdg.all fun x=>decide (0<=x) && decide (x<=255))=true:=by kernel_rfl
 unfold fmtS
 split
 ·intro x hx
  unfold qfv at hx
  have h0:=hb (over (List.replicate 64 0) 0 (bI ybni)) (by kernel_rfl)
  rcases List.mem_or_eq_of_mem_set hx with hx | rfl
  ·rcases List.mem_or_eq_of_mem_set hx with hx | rfl
   ·exact h0 x hx
   ·omega
  ·omega
 ·split
  ·exact hb _ (by kernel_rfl)
  ·split
   ·next h=> 
    have:n=1\/n=2\/n=3:=by omega
    rcases this with rfl | rfl | rfl <;> exact hb _ (by kernel_rfl)
   ·exact hb _ hz
theorem qyj (k:Nat) (hk:64<=k) (hk2:k<=256) (w:World):
  Calls Tryz.prog 9 #[.int .i64 (k:Int)] w
   (fun e w'=>∃ gf a F,e=.returned (.tuple #[.pointer (some ⟨gf,0,none⟩),.pointer (some a)])/\FsAt w' gf (fs0 k) F w'.heap.size a/\Below w.heap.size w w'/\(∀ i,F i->w.heap.size<=i)):=by
 have HN:=Lib.hid (ybyq k (k:Int) rfl (by omega) hk2 w)
 obtain⟨g1,g2,g3,g4⟩:=fmt_st k hk
 have hsec:=yblm k hk
 have HM:=Lib.hid (fun (W:World) (a:Addr) (F:Nat->Prop) (h:qaw W (.pointer (some a)) (fmtE (qbr k) k) k F)=>ybfk h hk hk2 (fmtE (qbr k) k) 0 (fun W' hW'=>ybnu (h.below hW') hk hk2 (by rw[hsec 5 (by omega),qml k 5 (by omega) (by omega)];rfl))
  (by rw[hsec 0 (by omega)];rfl) (fun n hn=>by rw[hsec n hn];exact ybeg k n hk2) (qay 16) (ybtg hk hsec) (ybuy hk hsec) (by rw[hsec 4 (by omega),qml k 4 (by omega) (by omega)];exact qvj) (by rw[hsec 4 (by omega),qml k 4 (by omega) (by omega)];exact ybqg) (by
   rw[ybai hk hsec]
   intro X hX
   unfold qkz at hX
   rcases List.mem_cons.1 hX with rfl | hX
   ·right;decide
   ·left;rw[List.eq_of_mem_replicate hX];rfl))
 rw[ybai hk hsec]at HM
 clear g1 g2 g3 g4 hsec
 go_enter Tryz.func9,Tryz.ntmps9
 go_wp2_with fail
 refine HN.out.mono ?_
 rintro e w1 ⟨d,F,rfl,hd,hF,hb,hne⟩
 obtain⟨a,rfl⟩:=hd.ptr
 have HF:=Lib.hid hF
 have HB:=Lib.hid hb
 have HFM:=Lib.hid (yblu hd hk hk2 (by simp[qbr]))
 clear hd hF hb hne
 go_wp2_with fail
 refine HFM.out.mono ?_
 rintro e w2 ⟨rfl,F2,y1,y2,y3⟩
 have HM2:=Lib.hid (HM.out w2 a F2 y1)
 have HB2:Hid (Below w.heap.size w w2):=HB.out.trans (y3.to_below HF.out HB.out.size)
 have HF2:Hid (∀ i,F2 i->w.heap.size<=i):=fun i hi=>(y2 i hi).elim (HF.out i) (fun h=>Nat.le_trans HB.out.size h)
 clear y1 y2 y3
 go_wp2_with fail
 refine HM2.out.mono ?_
 rintro e w3 ⟨gf,F3,rfl,h1,h2,h3⟩
 have HX:Hid (FsAt w3 gf (fs0 k) F3 w3.heap.size a/\Below w.heap.size w w3/\∀ i,F3 i->w.heap.size<=i):=⟨h1,HB2.out.trans (h2.to_below HF2.out HB2.out.size),fun i hi=>(h3 i hi).elim (HF2.out i) (fun h=>Nat.le_trans HB2.out.size h)⟩
 clear h1 h2 h3
 go_wp2
 go_ret2
 exact⟨gf,a,F3,rfl,HX.out⟩
open Go.Shelf Go.Sort
def toJs (y:Int × Value):Js:=(Fin.ofNat 256 y.1.toNat,match y.2 with | .slice q n c=>(q,n,c) | _=>(none,0,0))
def qlc (l:List (Int × Value)):List Value:=l.flatMap fun y=>[.int .i64 y.1,y.2]
def IsW (y:Int × Value):Prop:=(0<=y.1/\y.1<256)/\∃ q n c,y.2=.slice q n c
theorem ybuw {y:Int × Value} (h:IsW y):encS (toJs y)=[.int .i64 y.1,y.2]:=by
 obtain⟨⟨h1,h2⟩,q,n,c,h3⟩:=h
 obtain⟨k,v⟩:=y
 dsimp only at h1 h2 h3
 subst h3
 unfold encS toJs
 dsimp only
 rw[Fin.val_ofNat,Nat.mod_eq_of_lt (by omega)]
 congr 2
 omega
theorem qvh {l:List (Int × Value)} (h:∀ y ∈ l,IsW y):qlc l=(l.map toJs).flatMap encS:=by
 unfold qlc
 rw[List.flatMap_map]
 induction l with
 | nil=>rfl
 | cons y l ih=>rw[List.flatMap_cons,List.flatMap_cons,ih (fun z hz=>h z (List.mem_cons_of_mem _ hz)),ybuw (h y List.mem_cons_self)]
theorem qqp {y:Int × Value} (h:IsW y):((toJs y).1.val:Int)=y.1:=by
 obtain⟨⟨h1,h2⟩,_⟩:=h
 unfold toJs
 dsimp only
 rw[Fin.val_ofNat,Nat.mod_eq_of_lt (by omega)]
 omega
theorem ybpd {l done:List (Int × Value)} {T:List Js} (hl:qcp l) (hw:∀ y ∈ l,IsW y) (hp:done.Perm l) (ht:T.Perm (done.map toJs)) (hs:T.Pairwise (fun a b=>a.1.val<=b.1.val)):T=l.map toJs:=by
 have hp2:T.Perm (l.map toJs):=ht.trans (hp.map _)
 have hr:(l.map toJs).Pairwise (fun a b=>a.1.val<=b.1.val):=by
  rw[List.pairwise_map]
  refine (List.Pairwise.and_mem.1 hl).imp fun {a b} h=>?_
  have h1:=qqp (hw a h.1)
  have h2:=qqp (hw b h.2.1)
  have h3:=h.2.2
  omega
 refine List.Perm.eq_of_pairwise (fun x y hx hy h1 h2=>?_) hs hr hp2
 obtain⟨a,ha,rfl⟩:=List.mem_map.1 (hp2.mem_iff.1 hx)
 obtain⟨b,hb,rfl⟩:=List.mem_map.1 hy
 have e1:=qqp (hw a ha)
 have e2:=qqp (hw b hb)
 have e3:a.1=b.1:=by omega
 have:=qdi hl (k:=a.1) (v:=a.2) ha
 rw[e3,qdi hl (k:=b.1) (v:=b.2) hb]at this
 have:a=b:=Prod.ext e3 (Option.some.inj this).symm
 rw[this]
theorem ybdw (l:List (Int × Value)) (k:Int) (v:Value):qlc (l++[(k,v)])=qlc l++[.int .i64 k,v]:=by unfold qlc;rw[List.flatMap_append];rfl
def qom (tl:List (Int × Value)) (todo:List (Int × List Int)):List Jw:=List.zipWith (fun y z=>⟨y.1.toNat,y.2,z.2⟩) tl todo
theorem qrw : ∀ {tl:List (Int × Value)} {todo:List (Int × List Int)},tl.length=todo.length->(∀ y ∈ tl,IsW y)->qhl (qom tl todo)=qlc tl
 | [],[],_,_=>rfl
 | [],_ :: _,h,_=>by simp at h
 | _ :: _,[],h,_=>by simp at h
 | y :: tl,z :: todo,h,hw=>by
  have ih:=qrw (tl:=tl) (todo:=todo) (by simpa using h) fun q hq=>hw q (List.mem_cons_of_mem _ hq)
  have h1:=(hw y List.mem_cons_self).1
  show qhl (⟨y.1.toNat,y.2,z.2⟩ :: qom tl todo)=_
  rw[show (⟨y.1.toNat,y.2,z.2⟩:Jw) :: qom tl todo=[⟨y.1.toNat,y.2,z.2⟩]++qom tl todo from rfl,qmx,ih]
  show _=[Value.int .i64 y.1,y.2]++qlc tl
  congr 1
  show [Value.int .i64 (y.1.toNat:Int),y.2]=_
  rw[show ((y.1.toNat:Nat):Int)=y.1 by omega]
theorem qyr : ∀ {tl:List (Int × Value)} {todo:List (Int × List Int)},tl.map (·.1)=todo.map (·.1)->(qom tl todo).map jab=todo.map (fun y=>(y.1.toNat,y.2))
 | [],[],_=>rfl
 | [],_ :: _,h=>by simp at h
 | _ :: _,[],h=>by simp at h
 | y :: tl,z :: todo,h=>by
  simp only[List.map_cons,List.cons.injEq]at h
  have ih:=qyr h.2
  show jab ⟨y.1.toNat,y.2,z.2⟩ :: (qom tl todo).map jab=_
  rw[ih,List.map_cons]
  unfold jab
  rw[h.1]
theorem ybmp {tl:List (Int × Value)} {todo:List (Int × List Int)} (h:tl.length=todo.length):(qom tl todo).length=tl.length:=by unfold qom;rw[List.length_zipWith];omega
theorem qys {w:World} {B:Nat}:∀ {tl:List (Int × Value)} {todo:List (Int × List Int)},qas w B tl todo->(∀ y ∈ tl,IsW y)->∀ x ∈ qom tl todo,qjl w B x
 | [],_,_,_,x,hx=>by simp[qom]at hx
 | _ :: _,[],h,_,x,hx=>by simp[qom]at hx
 | y :: tl,z :: todo,h,hw,x,hx=>by
  obtain⟨h1,h2,h3⟩:=h.tail
  rcases List.mem_cons.1 (show x ∈ ⟨y.1.toNat,y.2,z.2⟩ :: qom tl todo from hx) with rfl | hx
  ·have hk:=(hw y List.mem_cons_self).1
   obtain⟨g,cap,cur,q1,q2,q3,q4,q5,q6⟩:=h2
   exact⟨by show y.1.toNat<256;omega,q2,g,cap,cur,q1,⟨q4,q3⟩,q5,q6⟩
  ·exact qys h3 (fun q hq=>hw q (List.mem_cons_of_mem _ hq)) x hx
theorem wsInfo : (Tryz.prog.info? 169).map (fun i=>(i.zero,i.size,i.bytes))=some (some (.agg #[.int .i64 0,.slice none 0 0]),2,32):=by kernel_rfl
theorem wsT : Tryz.prog.underlying 123=some (.slice 169):=by kernel_rfl
theorem ybmg {w:World} {gf:Nat} {s:Fs} {F:Nat->Prop} {B:Nat} {a:Addr} (h:FsAt w gf s F B a) (hk:∀ y ∈ s.todo,0<=y.1/\y.1<256) (hl:s.todo.length<=1000):
  Calls Tryz.prog 68 #[.pointer (some ⟨gf,0,none⟩)] w
   (fun e w'=>∃ v E,e=.returned v/\qeh w' w.heap.size B v E/\E.map jab=s.todo.map (fun y=>(y.1.toNat,y.2))/\Below w.heap.size w w'):=by
 obtain⟨⟨gl,rv,nv,bt,bh,E,tl,FD,h1,h2,h3,h4,h5,h6,h7,h8,h9,h10,h11,h12,h13,h14,h15,h16,h17⟩,a1,a2,a3,a4,a5,a6,a7⟩:=h
 obtain⟨_,_,_,_,c196,_⟩:=qev h1
 have HM:=Lib.hid h10
 have HSC:=Lib.hid h11
 have HGF:Hid (gf<w.heap.size):=qac h1
 have hlen:tl.length=s.todo.length:=h11.len
 have HLT:Hid (tl.length<=1000):=by show _<=_;omega
 have HIW:Hid (∀ y ∈ tl,IsW y):=fun y hy=>by
  obtain⟨i,hi,rfl⟩:=List.mem_iff_getElem.1 hy
  have hi2:i<s.todo.length:=by omega
  have hkey:tl[i].1=s.todo[i].1:=by
   have:=congrArg (fun l=>l[i]?) h11.1
   simp only[List.getElem?_map,List.getElem?_eq_getElem hi,List.getElem?_eq_getElem hi2,Option.map_some,Option.some.injEq]at this
   exact this
  refine⟨by rw[hkey];exact hk _ (List.getElem_mem hi2),?_⟩
  obtain⟨g,cap,cur,hv,_⟩:=h11.2 i hi hi2
  exact⟨_,_,_,hv⟩
 clear h1 h2 h3 h4 h5 h6 h7 h8 h9 h10 h11 h12 h13 h14 h15 h16 h17 a1 a2 a3 a4 a5 a6 a7 hlen
 obtain⟨i0,hi0,hz0,hz1,hz2⟩:=info_parts wsInfo
 have HI0:=Lib.hid hi0
 have HIZ:=Lib.hid hz0
 have HI1:=Lib.hid hz1
 have HI2:=Lib.hid hz2
 clear hi0 hz0 hz1 hz2
 go_enter Tryz.func68,Tryz.ntmps68
 go_wp2_with (at_range;refine qfq _ rfl _ _ rfl 3 38 intT qpu bt tl rfl HM.out ?_;intro w4 hr4 hg4 hs4)
 have HB4:Hid (Below w.heap.size w w4):=Below.grown (Below.refl _ _) hg4 (Nat.le_refl _) (fun q hq=>by cases hq)
 have HR4:=Lib.hid hr4
 obtain⟨r0,Hr0⟩:∃ r,Hid (w.heap.size=r):=⟨_,rfl⟩
 have HBT:Hid (bt<w.heap.size):=HM.out.lt
 clear hr4 hg4 c196
 simp only[Act.put,List.setIfInBounds_toArray,List.set_cons_zero,List.set_cons_succ]
 go_loopw [3] (fun ov wr=>∃ (done:List (Int × Value)) (cnt:Nat),Hid (qdr Tryz.prog 3 wr bt w.heap.size tl done cnt)/\Hid (Below w.heap.size w wr)/\Hid (wr.ownsRow (w.heap.size+1) 169 2 ov done.length (qlc done))) (fun _ wr=>wr.rangeLeft bt w.heap.size)
 case atStart=>exact⟨[],tl.length,HR4,HB4,⟨rfl,Or.inl ⟨rfl,rfl⟩⟩⟩
 case round=>
  obtain⟨done,cnt,HRG,HBR,HOW⟩:=hrel
  have hle:=HRG.out.left_eq
  go_wp2_with (first
   | (at_next;refine qgn _ rfl _ rfl 3 intT bt _ tl done cnt rfl HRG.out (fun hp=>?qd) (fun xk c' w' cnt' hxz hmem hnot hlen' hrg' hlt hgr hsz hen=>?qm);(case' qm=>(have HRG':=Lib.hid hrg';have HDL:=Lib.hid hlen';have HLE:=Lib.hid hrg'.left_eq;have HCT:=Lib.hid hlt;obtain⟨q',n',cc',hcv⟩:=(HIW.out _ hmem).2;have hcv2:c'=Value.slice q' n' cc':=hcv;subst hcv2;have HB':Hid (Below w.heap.size w w'):=Below.grown HBR.out hgr HBR.out.size (fun q hq=>by injection hq with hq;omega);have HOW':Hid (w'.ownsRow (w.heap.size+1) 169 2 u3 done.length (qlc done)):=qbi HOW.out (fun b hb=>hgr.block b (HOW.out.lt b hb).2 (fun hc=>by injection hc with hc;have:=(HOW.out.lt b hb).1;omega));have HSZ':Hid (w.heap.size<w'.heap.size):=hrg'.lt;clear hcv hxz hmem hnot hlen' hrg' hlt hgr hsz)))
   | (at_builtin;refine wpList_append_own _ rfl _ _ 123 rfl (w.heap.size+1) 169 i0 (.agg #[.int .i64 0,.slice none 0 0]) 2 32 wsT HI0.out HIZ.out HI1.out HI2.out rfl (by decide) _ done.length (qlc done) rfl (qap HOW'.out ((Below.refl _ _).alloc (Nat.le_refl _) _)) ⟨w'.heap.size,0,none⟩ 1 1 [.int .i64 xk,.slice q' n' cc'] rfl rfl (World.news_of_block (cs:=#[.int .i64 xk,.slice q' n' cc']) (t:=169) (fr:=(0,0)) (heap_alloc_new w' _)) (by simp[Value.oneCell']) (by unfold maxLen;have:=HDL.out;have:=HLT.out;omega) (by have:=HDL.out;have:=HLT.out;omega) (by have:=HSZ'.out;simp;omega) ?_;intro v5 w5 hown hgrow _))
  ·have hne:∀ b,u3.ownBlock=some b->w.heap.size+1<=b:=fun b hb=>(HOW'.out.lt b hb).1
   have hb5:∀ b,b<=w.heap.size->b<w'.heap.size->w5.heap[b]? = w'.heap[b]? :=fun b h1 h2=>(hgrow.block b (by simp;omega) (fun hc=>by have:=hne b hc.symm;omega)).trans (heap_alloc_old _ _ h2)
   have hrg5:=HRG'.out.of_block (hb5 bt (by have:=HBT.out;omega) HRG'.out.map.lt) (hb5 w.heap.size (Nat.le_refl _) HSZ'.out)
   refine⟨⟨_,cnt',hrg5,Below.grown (HB'.out.alloc HB'.out.size _) hgrow (by have:=HSZ'.out;simp;omega) (fun q hq=>by have:=hne q hq;omega),?_⟩,by rw[hrg5.left_eq,hle];exact HCT.out⟩
   show World.ownsRow _ _ _ _ _ _ _
   rw[ybdw,List.length_append]
   exact hown
  ·have hsub:∀ y ∈ done,IsW y:=fun y hy=>HIW.out y (hp.mem_iff.1 hy)
   have how:=HOW.out
   rw[qvh hsub,<-List.length_map (f:=toJs)]at how
   have HSRT:=Lib.hid (ybpb (w.heap.size+1) u3 (done.map toJs) wr how (by rw[List.length_map,hp.length_eq];have:=HLT.out;omega))
   have HPM:=Lib.hid hp
   clear hp hsub how hle
   refine HSRT.out.mono ?_
   rintro e w6 ⟨rfl,T,hT1,hT2,hT3,hT4⟩
   have hTe:=ybpd HRG.out.map.2.1 HIW.out HPM.out hT1 hT2
   have HB6:Hid (Below w.heap.size w w6):=Below.grown HBR.out hT4 HBR.out.size (fun q hq=>by have:=(HOW.out.lt q hq).1;omega)
   have hlt2:tl.length=s.todo.length:=HSC.out.len
   have HJ:Hid (qeh w6 w.heap.size B u3 (qom tl s.todo)):=by
    refine⟨?_,qys (HSC.out.keep fun g cc _ hc=>HB6.out.block g (qac hc)) HIW.out⟩
    rw[qrw hlt2 HIW.out,ybmp hlt2,qvh HIW.out]
    rw[hTe,List.length_map,HPM.out.length_eq]at hT3
    exact qnf hT3 (by omega)
   clear hT1 hT2 hT3 hT4 hTe hlt2
   go_wp2
   go_ret
   exact⟨u3,_,rfl,HJ.out,qyr HSC.out.1,HB6.out⟩
end Go.Proofs.YtpoglnpjadmbpaaGreatDoor
