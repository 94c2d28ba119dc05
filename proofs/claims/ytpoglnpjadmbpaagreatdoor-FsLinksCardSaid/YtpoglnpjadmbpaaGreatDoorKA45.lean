/- Part of the proofs of FsLinks: the texts TxH, TxI, TxJ. -/
import Derived.Test.YtpoglnpjadmbpaaGreatDoorKA44
set_option maxHeartbeats 16000000
set_option maxRecDepth 100000
namespace Go.Proofs.YtpoglnpjadmbpaaGreatDoor
open Go.RowKit
theorem ybjt {w:World} {B:Nat} {F T:Nat->Prop} {gt:Nat} {fp:Value} {x:Tx} (h:TxAt w B F gt fp x T) (i:Nat) (hi:i<32) (X:Pn) (hX:x.nodes[i]? = some X) (hl:0<X.l):
  Calls Tryz.prog 73 #[.pointer (some ⟨gt,0,none⟩),.int .i64 ((i:Int)+1)] w (fun e w'=>e=.returned (.tuple #[])/\Below w.heap.size w w'):=by
 have HND:=Lib.hid (qkh h i hi X hX)
 obtain⟨l,Hl⟩:∃ l,Hid (X.l=l):=⟨_,rfl⟩
 rw[Hl.out]at HND hl
 have d1:decide (0<l)=true:=decide_eq_true hl
 clear h hX
 go_enter Tryz.func73,Tryz.ntmps73
 go_wp2_with fail
 refine HND.out.mono ?_
 rintro e w1 ⟨q,n,c,rfl,hnv,hb1⟩
 have HB1:=Lib.hid hb1
 have HB2:Hid (Below w.heap.size w (w1.alloc (.cells #[.int .i64 X.k,.int .i64 X.m,.int .i64 X.u,.int .i64 X.g,.int .i64 X.s,.int .i64 l,.int .i64 X.up,.slice q n c] 103))):=HB1.out.alloc HB1.out.size _
 have s5:=(qag (heap_alloc_new w1 (.cells #[.int .i64 X.k,.int .i64 X.m,.int .i64 X.u,.int .i64 X.g,.int .i64 X.s,.int .i64 l,.int .i64 X.up,.slice q n c] 103))).2.2.2.2.2.1
 clear hnv hb1
 go_wp2
 refine⟨rfl,.tuple #[],(by simp[results,Tryz.results73,go_sem]),rfl,HB2.out⟩
theorem heldT : Tryz.prog.underlying 94=some (.map 3 3):=by kernel_rfl
theorem intZv (w:World):(zeroValue 3).run Tryz.prog w=.ok (.int .i64 0) w:=(zero_of_info (P:=Tryz.prog) (t:=3) (v:=.int .i64 0) (n:=1) (by kernel_rfl)).1 w
theorem ybzx {w w0:World} {F F1 T:Nat->Prop} {gt gf:Nat} {x:Tx} {s:Fs} {a:Addr} {B0:Nat} (hf:FsAt w0 gf s F1 B0 a) (hb:Below w0.heap.size w0 w) (h:TxAt w w0.heap.size F gt (.pointer (some ⟨gf,0,none⟩)) x T) (hF:∀ i,F i->i<w.heap.size)
  (i:Nat) (hi:i<32) (X:Pn) (hX:x.nodes[i]? = some X) (hl:X.l=0) (hPl:X.P.length<=8) (hg:x.gone.length<=900) (hd:x.dirty.length<900):
  Calls Tryz.prog 73 #[.pointer (some ⟨gt,0,none⟩),.int .i64 ((i:Int)+1)] w
   (fun e w'=>e=.returned (.tuple #[])/\qbg w0.heap.size F gt (.pointer (some ⟨gf,0,none⟩)) { x with gone:=x.gone++nzF X.P,nodes:=x.nodes.set i zN,dirty:=putZ x.dirty ((i:Int)+1) (.bool true) } T w w'):=by
 have H:=Lib.hid h
 have HF:=Lib.hid (hf.below hb)
 have HFin:=Lib.hid hF
 have HPL:=Lib.hid hPl
 have HG:=Lib.hid hg
 have HND:=Lib.hid (qkh h i hi X hX)
 rw[hl]at HND
 have HLK:Hid (∀ W:World,Below w.heap.size w W->∃ bh,W.cell? ⟨gt,0,none⟩=some (.pointer (some ⟨gf,0,none⟩))/\W.cell? ⟨gf,197,none⟩=some (.map (some bh))/\(Instr.lookup 94 (.map (some bh)) (.int .i64 ((i:Int)+1)) false).run Tryz.prog W=.ok (.int .i64 0) W):=fun W hW=>by
  obtain⟨rv,gn,cn,gd,gp,gv,E,pl,hL⟩:=(h.below hW).lies
  obtain⟨c0,_⟩:=qbt hL.row
  obtain⟨⟨gl,rv',nv',bt,bh,E',tl,FD,f1,f2,f3,f4,f5,f6,f7,f8,f9,f10,f11,f12,f13,f14,f15,f16,f17⟩,_⟩:=(hf.below hb).below hW
  obtain⟨_,_,_,_,_,c197⟩:=qev f1
  exact⟨bh,c0,c197,f15.look intT heldT (intZv W) (by unfold InZ;omega)⟩
 clear h hf hF hX hl
 go_enter Tryz.func73,Tryz.ntmps73
 go_wp2_with fail
 refine HND.out.mono ?_
 rintro e w1 ⟨q,n,c,rfl,hnv,hb1⟩
 have HB1:=Lib.hid hb1
 have HNV:=Lib.hid hnv
 have HB2:Hid (Below w.heap.size w (w1.alloc (.cells #[.int .i64 X.k,.int .i64 X.m,.int .i64 X.u,.int .i64 X.g,.int .i64 X.s,.int .i64 0,.int .i64 X.up,.slice q n c] 103))):=HB1.out.alloc HB1.out.size _
 have HR2:Hid ((w1.alloc (.cells #[.int .i64 X.k,.int .i64 X.m,.int .i64 X.u,.int .i64 X.g,.int .i64 X.s,.int .i64 0,.int .i64 X.up,.slice q n c] 103)).heap[w1.heap.size]? = some (.cells #[.int .i64 X.k,.int .i64 X.m,.int .i64 X.u,.int .i64 X.g,.int .i64 X.s,.int .i64 0,.int .i64 X.up,.slice q n c] 103 (0,0))):=heap_alloc_new _ _
 have HN2:Hid (ybgq (fun i=>F i\/T i) X (w1.alloc (.cells #[.int .i64 X.k,.int .i64 X.m,.int .i64 X.u,.int .i64 X.g,.int .i64 X.s,.int .i64 0,.int .i64 X.up,.slice q n c] 103)) q n c):=HNV.out.below ((Below.refl _ _).alloc (Nat.le_refl _) _)
 have HGW:Hid (w.heap.size<=w1.heap.size):=hb1.size
 clear hnv hb1
 obtain⟨bh,y0,y197,hlk⟩:=HLK.out _ HB2.out
 obtain⟨m0,m1,m2,m3,m4,m5,m6,m7⟩:=qag HR2.out
 go_wp2
 clear y0 y197 hlk m0 m1 m2 m3 m4 m5 m6 m7 HR2
 obtain⟨w2,HW2⟩:∃ x,Hid ((w1.alloc (.cells #[.int .i64 X.k,.int .i64 X.m,.int .i64 X.u,.int .i64 X.g,.int .i64 X.s,.int .i64 0,.int .i64 X.up,.slice q n c] 103))=x):=⟨_,rfl⟩
 have HL2:Hid (X.P.length=n):=by
  obtain⟨p,cp,hv,_⟩:=qib HN2.out.now
  injection hv with e1 e2 e3
  exact e2.symm
 have HT2:Hid (qbg w0.heap.size F gt (.pointer (some ⟨gf,0,none⟩)) x T w w2):=by rw[<-HW2.out];exact qbg.same H.out HB2.out
 have HTA:Hid (TxAt w2 w0.heap.size F gt (.pointer (some ⟨gf,0,none⟩)) x T):=by rw[<-HW2.out];exact H.out.below HB2.out
 have HBW:Hid (Below w.heap.size w w2):=by rw[<-HW2.out];exact HB2.out
 rw[HW2.out]at HN2
 rw[HW2.out]
 have hn8:n<=8:=by have h1:=HL2.out;have h2:=HPL.out;omega
 go_loopw [28] (fun iv wr=>∃ j:Nat,j<=n/\iv=.int .i64 (j:Int)/\Hid (qbg w0.heap.size F gt (.pointer (some ⟨gf,0,none⟩)) { x with gone:=x.gone++nzF (X.P.take j) } T w2 wr)) (fun iv _=>20 - (intOf iv).toNat)
 case atStart=>exact⟨0,Nat.zero_le _,rfl,by
  have:({ x with gone:=x.gone++nzF (X.P.take 0) }:Tx)=x:=by
   show ({ x with gone:=x.gone++[] }:Tx)=x
   rw[List.append_nil]
  show qbg _ _ _ _ _ _ _ _
  rw[this]
  exact qbg.same HTA.out (Below.refl _ _)⟩
 case round=>
  obtain⟨j,hj,rfl,HTD⟩:=hrel
  have ij:IntKind.i64.wrap ((j:Int)+1)=(j:Int)+1:=IntWalk.i64_in _ (by omega)
  obtain⟨T',t1,t2,t3,t4⟩:=id HTD.out
  have HT1:=Lib.hid t1
  have HTS:Hid ((∀ i,T' i->T i\/w2.heap.size<=i)/\qab T w2 wr/\∀ i,T i->T' i):=⟨t2,t3,t4⟩
  by_cases hjn:j<n
  ·have d1:(j:Int)<(n:Int):=by omega
   have d2:decide ((j:Int)<(n:Int))=true:=decide_eq_true d1
   have hI:=HN2.out wr (t3.mono fun i _ hi=>Or.inr hi)
   obtain⟨_,⟨h0,_⟩ | ⟨gq,oq,cq,hv,hc⟩⟩:=hI
   ·have:=HL2.out;omega
   injection hv with e1 e2 e3
   subst e1 e3
   have hjP:j<X.P.length:=by rw[HL2.out];exact hjn
   have hcj:wr.cell? ⟨gq,oq+j,none⟩=some (.int .i64 X.P[j]):=hc j _ (by unfold ints;rw[List.getElem?_map,List.getElem?_eq_getElem hjP];rfl)
   have htk:nzF (X.P.take (j+1))=nzF (X.P.take j)++nzF [X.P[j]]:=by rw[<-ybcw];congr 1;exact ybge _ _ _ (List.getElem?_eq_getElem hjP)
   have HTK:=Lib.hid htk
   obtain⟨p,Hp⟩:∃ p,Hid (X.P[j]=p):=⟨X.P[j],Lib.hid rfl⟩
   rw[Hp.out]at hcj HTK
   clear htk hc t1 t2 t3 t4
   by_cases hp0:p=0
   ·subst hp0
    go_wp2
    go_roundw
    case rel=>exact⟨j+1,by omega,by go_num,by
     show qbg _ _ _ _ _ _ _ _
     rw[HTK.out,show nzF [(0:Int)]=[] from rfl,List.append_nil];exact HTD.out⟩
    case measure=>simp[intOf];omega
   ·have b0:(p != 0)=true:=by simpa using hp0
    have hnz:nzF [p]=[p]:=by unfold nzF;simp[hp0]
    obtain⟨rv,gn,cn,gd,gp,gv,E,pl,hL⟩:=HT1.out.lies
    obtain⟨k0,k193,k194,k195,k196,k197,k198,k199⟩:=qbt hL.row
    have HLI:=Lib.hid hL
    obtain⟨G0,HG0⟩:∃ G,Hid (x.gone++nzF (X.P.take j)=G):=⟨_,rfl⟩
    have HGL:Hid (G0.length<=908):=by
     show _<=_
     rw[<-HG0.out,List.length_append]
     have h1:=ybyu (X.P.take j)
     rw[List.length_take]at h1
     have:=HG.out
     omega
    obtain⟨i0,hi0,hz0,hz1,hz2⟩:=info_parts qiv
    have HI0:=Lib.hid hi0
    have HIZ:=Lib.hid hz0
    have HI1:=Lib.hid hz1
    have HI2:=Lib.hid hz2
    have HOG:Hid (wr.ownsRow w0.heap.size 3 1 gv G0.length (ints G0)):=by rw[<-HG0.out];exact hL.gone
    have HOA:=Lib.hid (fun o=>qap HOG.out ((Below.refl wr.heap.size wr).alloc (Nat.le_refl _) o))
    have HSX:Hid (w0.heap.size<=wr.heap.size):=by
     have h1:=HT1.out.new gt HT1.out.self
     have h2:=qac hL.row
     show _<=_
     omega
    have HFR:Hid (∀ w5:World,(wr.alloc (.cells #[.int .i64 p] 3)).grownBy w5 gv.ownBlock->qab (fun r=>gv.ownBlock=some r) wr w5/\w5.heap[gt]? = wr.heap[gt]?):=fun w5 hg5=>by
     have k1:qab (fun r=>gv.ownBlock=some r) (wr.alloc (.cells #[.int .i64 p] 3)) w5:=qab.grown hg5 fun r hr=>hr
     have k2:qab (fun r=>gv.ownBlock=some r) wr w5:=(qab.of_below ((Below.refl _ _).alloc (Nat.le_refl _) _)).step k1
     refine⟨k2,k2.block gt (qac hL.row) fun hc=>?_⟩
     obtain⟨cur,hcur⟩:=qdl hL.gone gt hc
     exact qam hL.row hcur (by decide) rfl
    clear hi0 hz0 hz1 hz2 hL
    have hgl:=HGL.out
    go_wp2_with (at_builtin;refine wpList_append_lies _ rfl _ _ 32 rfl w0.heap.size 3 i0 (.int .i64 0) 1 8 qpe HI0.out HIZ.out HI1.out HI2.out rfl (by decide) gv G0.length (ints G0) rfl (HOA.out _) ⟨wr.heap.size,0,none⟩ 1 1 [.int .i64 p] rfl rfl (World.news_of_block (cs:=#[.int .i64 p]) (t:=3) (fr:=(0,0)) (heap_alloc_new wr _)) (by simp[Value.oneCell']) (by omega) (by unfold maxLen;omega) (by omega) (by have:=HSX.out;simp;omega) _ rfl ?_;intro g5 cap5 w5 hown hgrow hat hlt5;have hK5:=HFR.out w5 hgrow;have hz197:w5.frozen? ⟨gt,197,none⟩=false:=frozen_of_row _ _ _ _ _ (hK5.2.trans HLI.out.row);have hc197:w5.cell? ⟨gt,197,none⟩=some gv:=(qbt (hK5.2.trans HLI.out.row)).2.2.2.2.2.1)
    go_roundw
    case rel=>
     refine⟨j+1,by omega,by go_num,?_⟩
     have hk5:qab (fun r=>r=gt\/gv.ownBlock=some r) wr (w5.setCell ⟨gt,197,none⟩ (.slice (some ⟨g5,0,none⟩) (G0.length+1) cap5)):=(hK5.1.mono fun i _ hi=>Or.inr hi).step (qab.setCell (p:=⟨gt,197,none⟩) (Or.inl rfl) _)
     have hgl0:G0.length=(x.gone++nzF (X.P.take j)).length:=by rw[HG0.out]
     have hgtg:g5 ≠ gt:=fun hc=>by
      subst hc
      have h5:=hK5.2.trans HLI.out.row
      obtain⟨cur,hcur⟩:=qdl hown g5 rfl
      exact qam h5 hcur (by decide) rfl
     have hrow:(w5.setCell ⟨gt,197,none⟩ (.slice (some ⟨g5,0,none⟩) (G0.length+1) cap5)).heap[gt]? = some (.cells (txR (.pointer (some ⟨gf,0,none⟩)) x.fo rv (.slice (some ⟨gn,0,none⟩) 32 cn) (.map (some gd)) (.map (some gp)) (.slice (some ⟨g5,0,none⟩) (G0.length+1) cap5) x.full x.fake) 114 (0,0)):=by
      rw[<-ybgg]
      exact heap_setCell_same _ _ 197 _ _ _ (hK5.2.trans HLI.out.row)
     have hgo:ints G0++[Value.int .i64 p]=ints (G0++[p]):=by simp[ints]
     have hadd:=HLI.out.addGone HT1.out p g5 cap5 hk5 (by rw[<-hgl0];exact hrow) (by
      show World.ownsRow _ _ _ _ _ ((x.gone++nzF (X.P.take j)).length+1) (ints ((x.gone++nzF (X.P.take j))++[p]))
      rw[HG0.out,<-hgo]
      have hkg:qab (fun r=>r=gt) w5 (w5.setCell ⟨gt,197,none⟩ (.slice (some ⟨g5,0,none⟩) (G0.length+1) cap5)):=qab.setCell (F:=fun r=>r=gt) (p:=⟨gt,197,none⟩) rfl _
      exact qbi hown fun b hb=>hkg.block b (hown.lt b hb).2 (fun hc=>hgtg (by
       have e:g5=b:=by simpa[Value.ownBlock]using hb
       rw[e];exact hc))) (hat.imp id fun h=>by rw[h];simp) (by rw[<-hgl0];have:=HGL.out;omega)
     obtain⟨T2,s1,s2,s3,s4⟩:=hadd
     have e2:({ x with gone:=(x.gone++nzF (X.P.take j))++[p] }:Tx)={ x with gone:=x.gone++nzF (X.P.take (j+1)) }:=by
      rw[HTK.out,hnz,List.append_assoc]
     rw[<-e2]
     refine⟨T2,s1,fun i hi=>?_,HTS.out.2.1.trans s3 HTS.out.1,fun i hi=>s4 i (HTS.out.2.2 i hi)⟩
     rcases s2 i hi with h1 | h1
     ·exact HTS.out.1 i h1
     ·exact Or.inr (Nat.le_trans HTS.out.2.1.size h1)
    case measure=>simp[intOf];omega
  ·obtain rfl:j=n:=by omega
   have d1:¬ (j:Int)<(j:Int):=by omega
   have d2:decide ((j:Int)<(j:Int))=false:=decide_eq_false d1
   have HEQ:Hid (nzF (X.P.take j)=nzF X.P):=by show _=_;rw[List.take_of_length_le (by rw[HL2.out];exact Nat.le_refl _)]
   have hset:=qtc HT1.out i hi zN none 0 0 (fun w' _=>⟨rfl,Or.inl ⟨rfl,_,_,rfl⟩⟩) hd
   have HSET:=Lib.hid hset
   clear hset t1 t2 t3 t4
   go_wp2_with fail
   refine HSET.out.mono ?_
   rintro e w7 ⟨rfl,d7⟩
   have HD7:=Lib.hid d7
   clear d7
   go_wp2
   refine⟨rfl,.tuple #[],(by simp[results,Tryz.results73,go_sem]),rfl,?_⟩
   obtain⟨T2,s1,s2,s3,s4⟩:=HD7.out
   have e2:({ x with gone:=x.gone++nzF (X.P.take j),nodes:=x.nodes.set i zN,dirty:=putZ x.dirty ((i:Int)+1) (.bool true) }:Tx)={ x with gone:=x.gone++nzF X.P,nodes:=x.nodes.set i zN,dirty:=putZ x.dirty ((i:Int)+1) (.bool true) }:=by rw[HEQ.out]
   have hk27:qab T w2 w7:=HTS.out.2.1.trans s3 HTS.out.1
   rw[<-e2]
   refine⟨T2,s1,fun r hr=>?_,(qab.of_below HBW.out).trans hk27 (fun r hr=>Or.inl hr),fun r hr=>s4 r (HTS.out.2.2 r hr)⟩
   rcases s2 r hr with h1 | h1
   ·rcases HTS.out.1 r h1 with h2 | h2
    ·exact Or.inl h2
    ·exact Or.inr (Nat.le_trans HBW.out.size h2)
   ·exact Or.inr (Nat.le_trans HBW.out.size (Nat.le_trans HTS.out.2.1.size h1))
theorem qbg.after {w w1 w2:World} {B:Nat} {F T:Nat->Prop} {gt:Nat} {fp:Value} {x y:Tx} (_h:TxAt w B F gt fp x T) (hb:Below w.heap.size w w1) (hd:qbg B F gt fp y T w1 w2):qbg B F gt fp y T w w2:=by
 obtain⟨T2,s1,s2,s3,s4⟩:=hd
 refine⟨T2,s1,fun i hi=>?_,(qab.of_below hb).trans s3 fun i hi=>Or.inl hi,s4⟩
 rcases s2 i hi with h1 | h1
 ·exact Or.inl h1
 ·exact Or.inr (Nat.le_trans hb.size h1)
theorem qbg.join {w w1 w2:World} {B:Nat} {F T T1:Nat->Prop} {gt:Nat} {fp:Value} {y:Tx} (t1:∀ i,T1 i->T i\/w.heap.size<=i) (t2:qab T w w1) (t3:∀ i,T i->T1 i) (hd:qbg B F gt fp y T1 w1 w2):qbg B F gt fp y T w w2:=by
 obtain⟨T2,s1,s2,s3,s4⟩:=hd
 refine⟨T2,s1,fun i hi=>?_,t2.trans s3 t1,fun i hi=>s4 i (t3 i hi)⟩
 rcases s2 i hi with h1 | h1
 ·exact t1 i h1
 ·exact Or.inr (Nat.le_trans t2.size h1)
theorem ybzv {w w0:World} {F F1 T:Nat->Prop} {gt gf:Nat} {x:Tx} {s:Fs} {a:Addr} {B0:Nat} (hf:FsAt w0 gf s F1 B0 a) (hb:Below w0.heap.size w0 w) (h:TxAt w w0.heap.size F gt (.pointer (some ⟨gf,0,none⟩)) x T) (hF:∀ i,F i->i<w.heap.size)
  (i:Nat) (hi:i<32) (X:Pn) (hX:x.nodes[i]? = some X) (hl:0<X.l/\X.l<=200) (hPl:X.P.length<=8) (hg:x.gone.length<=900) (hd:x.dirty.length<890) (y:Tx)
  (hy:y=if X.l=1 then { x with gone:=x.gone++nzF X.P,nodes:=(x.nodes.set i { X with l:=X.l - 1 }).set i zN,dirty:=putZ (putZ x.dirty ((i:Int)+1) (.bool true)) ((i:Int)+1) (.bool true) } else { x with nodes:=x.nodes.set i { X with l:=X.l - 1 },dirty:=putZ x.dirty ((i:Int)+1) (.bool true) }):
  Calls Tryz.prog 66 #[.pointer (some ⟨gt,0,none⟩),.int .i64 ((i:Int)+1)] w
   (fun e w'=>e=.returned (.tuple #[])/\qbg w0.heap.size F gt (.pointer (some ⟨gf,0,none⟩)) y T w w'):=by
 have H:=Lib.hid h
 have HF:=Lib.hid hf
 have HB:=Lib.hid hb
 have HFin:=Lib.hid hF
 have HND:=Lib.hid (qkh h i hi X hX)
 have HLEN:Hid (x.nodes.length=32):=h.len
 have HPL:=Lib.hid hPl
 have HG:=Lib.hid hg
 have HDL:=Lib.hid hd
 have HY:=Lib.hid hy
 obtain⟨l,Hl⟩:∃ l,Hid (X.l=l):=⟨_,rfl⟩
 rw[Hl.out]at HND hl HY
 have iw:IntKind.i64.wrap (l - 1)=l - 1:=IntWalk.i64_in _ (by omega)
 have HLL:=Lib.hid hl
 clear h hf hb hF hX hy
 go_enter Tryz.func66,Tryz.ntmps66
 go_wp2_with fail
 refine HND.out.mono ?_
 rintro e w1 ⟨q,n,c,rfl,hnv,hb1⟩
 have HB1:=Lib.hid hb1
 have HNV:=Lib.hid hnv
 have hr1:(w1.alloc (.cells #[.int .i64 X.k,.int .i64 X.m,.int .i64 X.u,.int .i64 X.g,.int .i64 X.s,.int .i64 l,.int .i64 X.up,.slice q n c] 103)).heap[w1.heap.size]? = some (.cells #[.int .i64 X.k,.int .i64 X.m,.int .i64 X.u,.int .i64 X.g,.int .i64 X.s,.int .i64 l,.int .i64 X.up,.slice q n c] 103 (0,0)):=heap_alloc_new _ _
 have s5:=(qag hr1).2.2.2.2.2.1
 have z5:(w1.alloc (.cells #[.int .i64 X.k,.int .i64 X.m,.int .i64 X.u,.int .i64 X.g,.int .i64 X.s,.int .i64 l,.int .i64 X.up,.slice q n c] 103)).frozen? ⟨w1.heap.size,5,none⟩=false:=frozen_of_row _ _ _ _ _ hr1
 have hr2:(w1.alloc (.cells #[.int .i64 X.k,.int .i64 X.m,.int .i64 X.u,.int .i64 X.g,.int .i64 X.s,.int .i64 (l - 1),.int .i64 X.up,.slice q n c] 103)).heap[w1.heap.size]? = some (.cells #[.int .i64 X.k,.int .i64 X.m,.int .i64 X.u,.int .i64 X.g,.int .i64 X.s,.int .i64 (l - 1),.int .i64 X.up,.slice q n c] 103 (0,0)):=heap_alloc_new _ _
 obtain⟨m0,m1,m2,m3,m4,m5,m6,m7⟩:=qag hr2
 have HB2:Hid (Below w.heap.size w (w1.alloc (.cells #[.int .i64 X.k,.int .i64 X.m,.int .i64 X.u,.int .i64 X.g,.int .i64 X.s,.int .i64 (l - 1),.int .i64 X.up,.slice q n c] 103))):=HB1.out.alloc HB1.out.size _
 have HT2:=Lib.hid (H.out.below HB2.out)
 have hset:=qtc HT2.out i hi { X with l:=l - 1 } q n c (HNV.out.below ((Below.refl _ _).alloc (Nat.le_refl _) _)) (by have:=HDL.out;omega)
 have HSET:=Lib.hid hset
 clear hset hnv hb1 hr1 hr2
 go_wp2_with fail
 refine HSET.out.mono ?_
 rintro e w3 ⟨rfl,d3⟩
 obtain⟨T3,t1,t2,t3,t4⟩:=qbg.after H.out HB2.out d3
 have HJ:Hid ((∀ i,T3 i->T i\/w.heap.size<=i)/\qab T w w3/\∀ i,T i->T3 i):=⟨t2,t3,t4⟩
 have HT3:=Lib.hid t1
 have hX3:(x.nodes.set i { X with l:=l - 1 })[i]? = some { X with l:=l - 1 }:=List.getElem?_set_self (by rw[HLEN.out];exact hi)
 by_cases h1:l=1
 ·have HFR:=Lib.hid (ybzx HF.out (HB.out.trans (t3.to_below H.out.new HB.out.size)) t1 (fun r hr=>Nat.lt_of_lt_of_le (HFin.out r hr) t3.size) i hi { X with l:=l - 1 } hX3 (by show l - 1=0;omega) HPL.out HG.out (by have h2:=qdo ((i:Int)+1) (Value.bool true) x.dirty;have h3:=HDL.out;show (putZ x.dirty _ _).length<900;omega))
  clear d3 t1 t2 t3 t4 m0 m1 m2 m3 m4 m5 m6 m7 s5 z5
  go_wp2_with fail
  refine HFR.out.mono ?_
  rintro e w4 ⟨rfl,d4⟩
  have HD4:=Lib.hid d4
  clear d4
  go_wp2
  refine⟨rfl,.tuple #[],(by simp[results,Tryz.results66,go_sem]),rfl,?_⟩
  rw[HY.out,if_pos h1]
  exact qbg.join HJ.out.1 HJ.out.2.1 HJ.out.2.2 HD4.out
 ·have HFR:=Lib.hid (ybjt t1 i hi { X with l:=l - 1 } hX3 (by show 0<l - 1;omega))
  clear d3 t1 t2 t3 t4 m0 m1 m2 m3 m4 m5 m6 m7 s5 z5
  go_wp2_with fail
  refine HFR.out.mono ?_
  rintro e w4 ⟨rfl,hb4⟩
  have HB4:=Lib.hid hb4
  clear hb4
  go_wp2
  refine⟨rfl,.tuple #[],(by simp[results,Tryz.results66,go_sem]),rfl,?_⟩
  rw[HY.out,if_neg h1]
  exact qbg.join HJ.out.1 HJ.out.2.1 HJ.out.2.2 (qbg.same HT3.out HB4.out)
theorem ybit {w:World} {base:Nat} {e:TypeId} {size n cap g m:Nat} {xs:List Value} (h:w.ownsRow base e size (.slice (some ⟨g,0,none⟩) n cap) n xs) (hm:m<=n):w.ownsRow base e size (.slice (some ⟨g,0,none⟩) m cap) m (xs.take (m*size)):=by
 obtain⟨h1,⟨hv,_⟩ | ⟨g',cap',cur,hv,h2,h3,h4,h5,h6,h7⟩⟩:=h
 ·cases hv
 ·cases hv
  have hmn:m*size<=n*size:=Nat.mul_le_mul_right _ hm
  refine⟨by rw[List.length_take,h1];omega,Or.inr ⟨g,cap,cur,rfl,h2,h3,by omega,h5,h6,?_⟩⟩
  rw[<-h7,List.take_take]
  congr 1
  omega
theorem ybva {w w0:World} {F F1 T:Nat->Prop} {gt gf:Nat} {x:Tx} {s:Fs} {a:Addr} {B0:Nat} (hf:FsAt w0 gf s F1 B0 a) (hb:Below w0.heap.size w0 w) (h:TxAt w w0.heap.size F gt (.pointer (some ⟨gf,0,none⟩)) x T) (hF:∀ i,F i->i<w.heap.size)
  (i:Nat) (hi:i<32) (X:Pn) (hX:x.nodes[i]? = some X) (v:Value) (D:List Int) (hv:qbk w v D) (hvT:∀ b,v.ownBlock=some b->¬ T b) (hD:D.length<=512) (hg:X.P.length=(D.length+63) / 64+1) (hX8:X.P.length<=8) (hgn:x.gone.length<=900)
  (hn:qbm x.fo) (y:Fw) (hy:qcx s.k D ⟨x.fo,x.put,X.P.take ((D.length+63) / 64)⟩ ((D.length+63) / 64)=some y) (hpl:x.put.length<800) (hdl:x.dirty.length<900):
  Calls Tryz.prog 91 #[.pointer (some ⟨gt,0,none⟩),.int .i64 ((i:Int)+1),v] w
   (fun e w'=>e=.returned (.tuple #[])/\qbg w0.heap.size F gt (.pointer (some ⟨gf,0,none⟩)) { x with fo:=y.fo,put:=y.put,nodes:=x.nodes.set i { X with P:=y.P,s:=(D.length:Int) },dirty:=putZ x.dirty ((i:Int)+1) (.bool true),gone:=x.gone++[X.P.getD ((D.length+63) / 64) 0] } T w w'):=by
 have H:=Lib.hid h
 have HF:=Lib.hid hf
 have HBB:=Lib.hid hb
 have HV:=Lib.hid hv
 have HVT:=Lib.hid hvT
 have HFF:=Lib.hid hF
 obtain⟨K,HK⟩:∃ K,Hid ((D.length+63) / 64=K):=⟨_,rfl⟩
 rw[HK.out]at hg hy
 have hK8:K<=8:=by rw[<-HK.out];omega
 have HND:=Lib.hid (qkh h i hi X hX)
 have HBK:Hid (∀ W:World,Calls Tryz.prog 50 #[.int .i64 (D.length:Int)] W fun e w'=>e=.returned (.int .i64 (K:Int))/\W=w'):=fun W=>by
  have:=qhx (D.length:Int) W (by omega) (by omega)
  have e:qcc (D.length:Int)=(K:Int):=by unfold qcc;rw[<-HK.out];split <;> omega
  rw[e]at this
  exact this
 obtain⟨nD,HnD⟩:∃ n,Hid (D.length=n):=⟨_,rfl⟩
 obtain⟨vp,vc,hvs⟩:=qcq hv.1 nD HnD.out
 subst hvs
 rw[HnD.out]at HBK hD
 have HY:=Lib.hid hy
 have HNS:=Lib.hid hn
 clear h hf hb hv hvT hF hy hn hX
 go_enter Tryz.func91,Tryz.ntmps91
 go_wp2_with fail
 refine HND.out.mono ?_
 rintro e w1 ⟨q,n,c,rfl,hnv,hb1⟩
 have HB1:=Lib.hid hb1
 have HNV:=Lib.hid hnv
 clear hb1 hnv HND
 go_wp2_with fail
 refine (HBK.out _).mono ?_
 rintro e w2 ⟨rfl,rfl⟩
 obtain⟨gb,Hgb⟩:∃ x,Hid (w1.heap.size=x):=⟨_,rfl⟩
 have HB2:Hid (Below w.heap.size w (w1.alloc (.cells #[.int .i64 X.k,.int .i64 X.m,.int .i64 X.u,.int .i64 X.g,.int .i64 X.s,.int .i64 X.l,.int .i64 X.up,.slice q n c] 103))):=HB1.out.alloc HB1.out.size _
 have HR2:Hid ((w1.alloc (.cells #[.int .i64 X.k,.int .i64 X.m,.int .i64 X.u,.int .i64 X.g,.int .i64 X.s,.int .i64 X.l,.int .i64 X.up,.slice q n c] 103)).heap[gb]? = some (.cells #[.int .i64 X.k,.int .i64 X.m,.int .i64 X.u,.int .i64 X.g,.int .i64 X.s,.int .i64 X.l,.int .i64 X.up,.slice q n c] 103 (0,0))):=by rw[<-Hgb.out];exact heap_alloc_new _ _
 have HP2:Hid (qao (w1.alloc (.cells #[.int .i64 X.k,.int .i64 X.m,.int .i64 X.u,.int .i64 X.g,.int .i64 X.s,.int .i64 X.l,.int .i64 X.up,.slice q n c] 103)) (.slice q n c) X.P):=qai.below HNV.out.now ((Below.refl _ _).alloc (Nat.le_refl _) _)
 have hgw:w.heap.size<=gb:=by rw[<-Hgb.out];exact HB1.out.size
 rw[Hgb.out]
 generalize w1.alloc (.cells #[.int .i64 X.k,.int .i64 X.m,.int .i64 X.u,.int .i64 X.g,.int .i64 X.s,.int .i64 X.l,.int .i64 X.up,.slice q n c] 103)=w2 at *
 have HT2:Hid (TxAt w2 w0.heap.size (fun i=>F i\/i=gb) gt (.pointer (some ⟨gf,0,none⟩)) x T):=H.out.grow HB2.out gb hgw
 have c7:=(qag HR2.out).2.2.2.2.2.2.2
 clear HNV HB1
 go_wp2_with fail
 refine (qgh (.slice q n c) X.P w2 HP2.out (by omega)).mono ?_
 rintro e w3 ⟨v3,rfl,hO3,hb3,_⟩
 have HO3:=Lib.hid hO3
 have HB3:=Lib.hid hb3
 have HR3:=Lib.hid (qaa hb3 HR2.out)
 obtain⟨q3,c3,hv3,_⟩:=qat hO3
 subst hv3
 obtain⟨m,Hm⟩:∃ m,Hid (X.P.length=m):=⟨_,rfl⟩
 rw[Hm.out]at HO3 hg ⊢
 clear hO3 hb3 c7 HP2
 have HKm:Hid (m=K+1):=hg
 clear hg
 go_wp2
 obtain⟨p,Hp⟩:∃ p,Hid (X.P.getD K 0=p):=⟨_,rfl⟩
 obtain⟨xg,Hxg⟩:∃ z:Tx,Hid (z={ x with gone:=x.gone++[p] }):=⟨_,rfl⟩
 have HG9:=Lib.hid hgn
 have HT3:Hid (TxAt w3 w0.heap.size (fun i=>F i\/i=gb) gt (.pointer (some ⟨gf,0,none⟩)) x T):=HT2.out.below HB3.out
 obtain⟨i0,hi0,hz0,hz1,hz2⟩:=info_parts qiv
 have HI0:=Lib.hid hi0
 have HIZ:=Lib.hid hz0
 have HI1:=Lib.hid hz1
 have HI2:=Lib.hid hz2
 clear hi0 hz0 hz1 hz2
 go_loopw [8] (fun pv wr=>(pv=.slice q3 m c3/\Hid (wr=w3))\/(pv=.slice q3 K c3/\Hid (qbg w0.heap.size (fun i=>F i\/i=gb) gt (.pointer (some ⟨gf,0,none⟩)) xg T w3 wr))) (fun pv _=>lenV pv)
 case atStart=>exact Or.inl ⟨rfl,rfl⟩
 case round=>
  rcases hrel with⟨rfl,hwr⟩ | ⟨rfl,HD⟩
  ·have hwr2:=hwr.out
   subst hwr2
   have hg2:(K:Int)<(m:Int):=by have:=HKm.out;omega
   have hg3:K<m:=by have:=HKm.out;omega
   have hm1:(m:Int) - 1=(K:Int):=by have:=HKm.out;omega
   have hm2:IntKind.i64.wrap (K:Int)=(K:Int):=IntWalk.i64_in _ (by omega)
   obtain⟨g3,cap3,hv3,hg3b,hg3l⟩:=HO3.out.form (by omega)
   injection hv3 with e1 e2 e3
   subst e1 e3
   clear e2
   have hpK:K<X.P.length:=by rw[Hm.out];exact hg3
   have hcp:wr.cell? ⟨g3,K,none⟩=some (.int .i64 p):=by
    have:=HO3.out.cells (g:=g3) rfl K (.int .i64 p) (by
     unfold ints
     rw[List.getElem?_map,List.getElem?_eq_getElem hpK,<-Hp.out,List.getD_eq_getElem?_getD,List.getElem?_eq_getElem hpK];rfl)
    have hadd:(⟨g3,0,none⟩:Addr).add K=⟨g3,K,none⟩:=by unfold Addr.add;split <;> simp_all
    rwa [hadd]at this
   have hTd:=HT3.out.below (qba (Below.refl wr.heap.size wr) 1)
   obtain⟨rv,gn,cn,gd,gp,gv,E,pl,hL⟩:=HT3.out.lies
   obtain⟨k0,k193,k194,k195,k196,k197,k198,k199⟩:=qbt hL.row
   have HLI:=Lib.hid hL
   have HLD:=Lib.hid (hL.below (qba (Below.refl wr.heap.size wr) 1))
   have hbase:w0.heap.size<=wr.heap.size:=Nat.le_trans HBB.out.size (Nat.le_trans HB2.out.size HB3.out.size)
   have HFR:Hid (∀ w5:World,(wr.drew.alloc (.cells #[.int .i64 p] 3)).grownBy w5 gv.ownBlock->qab (fun r=>gv.ownBlock=some r) wr w5/\w5.heap[gt]? = wr.heap[gt]?):=fun w5 hg5=>by
    have k1:qab (fun r=>gv.ownBlock=some r) (wr.drew.alloc (.cells #[.int .i64 p] 3)) w5:=qab.grown hg5 fun r hr=>hr
    have k2:qab (fun r=>gv.ownBlock=some r) wr w5:=(qab.of_below ((qba (Below.refl wr.heap.size wr) 1).alloc (Nat.le_refl _) _)).step k1
    refine⟨k2,k2.block gt (qac HLI.out.row) fun hc=>?_⟩
    obtain⟨cur,hcur⟩:=qdl HLI.out.gone gt hc
    exact qam HLI.out.row hcur (by decide) rfl
   have HADD:Hid (∀ (gg cap4:Nat) (w4:World),w4.ownsRow w0.heap.size 3 1 (.slice (some ⟨gg,0,none⟩) (x.gone.length+1) cap4) (x.gone.length+1) (ints x.gone++[.int .i64 p])->(wr.drew.alloc (.cells #[.int .i64 p] 3)).grownBy w4 gv.ownBlock->(gv.ownBlock=some gg\/gg=wr.heap.size+1) ->
     qbg w0.heap.size (fun i=>F i\/i=gb) gt (.pointer (some ⟨gf,0,none⟩)) xg T wr (w4.setCell ⟨gt,197,none⟩ (.slice (some ⟨gg,0,none⟩) (x.gone.length+1) cap4))):=fun gg cap4 w4 hown hgrow hat=>by
    have hK5:=HFR.out w4 hgrow
    have hk5:qab (fun r=>r=gt\/gv.ownBlock=some r) wr (w4.setCell ⟨gt,197,none⟩ (.slice (some ⟨gg,0,none⟩) (x.gone.length+1) cap4)):=(hK5.1.mono fun i _ hi=>Or.inr hi).step (qab.setCell (p:=⟨gt,197,none⟩) (Or.inl rfl) _)
    have hgtg:gg ≠ gt:=fun hc=>by
     subst hc
     obtain⟨cur,hcur⟩:=qdl hown gg rfl
     exact qam (hK5.2.trans HLI.out.row) hcur (by decide) rfl
    have hrow:(w4.setCell ⟨gt,197,none⟩ (.slice (some ⟨gg,0,none⟩) (x.gone.length+1) cap4)).heap[gt]? = some (.cells (txR (.pointer (some ⟨gf,0,none⟩)) x.fo rv (.slice (some ⟨gn,0,none⟩) 32 cn) (.map (some gd)) (.map (some gp)) (.slice (some ⟨gg,0,none⟩) (x.gone.length+1) cap4) x.full x.fake) 114 (0,0)):=by
     rw[<-ybgg]
     exact heap_setCell_same _ _ 197 _ _ _ (hK5.2.trans HLI.out.row)
    have hgo:ints x.gone++[Value.int .i64 p]=ints (x.gone++[p]):=by simp[ints]
    rw[Hxg.out]
    refine HLI.out.addGone HT3.out p gg cap4 hk5 hrow ?_ (hat.imp id fun h=>by rw[h];omega) (by have:=HG9.out;omega)
    rw[<-hgo]
    have hkg:qab (fun r=>r=gt) w4 (w4.setCell ⟨gt,197,none⟩ (.slice (some ⟨gg,0,none⟩) (x.gone.length+1) cap4)):=qab.setCell (F:=fun r=>r=gt) (p:=⟨gt,197,none⟩) rfl _
    exact qbi hown fun b hb=>hkg.block b (hown.lt b hb).2 (fun hc=>hgtg (by
     have e:gg=b:=by simpa[Value.ownBlock]using hb
     rw[e];exact hc))
   have hKc:K<=c3:=by
    obtain⟨_,⟨hv,_⟩ | ⟨g',cap',cur,hv,_,_,hc,_⟩⟩:=id HO3.out
    ·cases hv
    ·cases hv;omega
   have hKc2:(K:Int)<=(c3:Int):=by omega
   have kz:gt<wr.heap.size:=qac HLI.out.row
   have kn:¬ gt=wr.heap.size:=Nat.ne_of_lt kz
   have kz3:g3<wr.heap.size:=(HO3.out.lt g3 rfl).2
   have kn3:¬ g3=wr.heap.size:=Nat.ne_of_lt kz3
   clear hwr
   go_wp2
   go_region_law (first
    | (refine step_append_lies _ (by rfl) _ _ _ (by rfl) w0.heap.size 3 i0 (.int .i64 0) 1 8 qpe HI0.out HIZ.out HI1.out HI2.out rfl (by decide) gv x.gone.length (ints x.gone) (by rfl) (HLD.out.gone.alloc _) ⟨wr.heap.size,0,none⟩ 1 1 [.int .i64 p] (by rfl) (by rfl) (World.news_of_block (cs:=#[.int .i64 p]) (t:=3) (fr:=(0,0)) (heap_alloc_new wr.drew _)) (by simp[Value.oneCell']) (by omega) (by unfold maxLen;omega) (by omega) (by simp;omega) (wr.heap.size+1) (by simp) ?_;intro gg cap4 w4 hown4 hgrow hat hlt;have hK5:=HFR.out w4 hgrow;have hz197:w4.frozen? ⟨gt,197,none⟩=false:=frozen_of_row _ _ _ _ _ (hK5.2.trans HLI.out.row);have hc197:w4.cell? ⟨gt,197,none⟩=some gv:=(qbt (hK5.2.trans HLI.out.row)).2.2.2.2.2.1;have HD:=Lib.hid (HADD.out gg cap4 w4 hown4 hgrow hat);clear hown4 hgrow hat))
   all_goals
    go_wp2
    go_roundw
    case rel=>exact Or.inr ⟨rfl,HD⟩
    case measure=>simp[lenV];omega
  ·obtain⟨T1,t1,t2,t3,t4⟩:=id HD.out
   have HT1:=Lib.hid t1
   have HTS:Hid ((∀ i,T1 i->T i\/w3.heap.size<=i)/\qab T w3 wr/\∀ i,T i->T1 i):=⟨t2,t3,t4⟩
   have hgb3:gb<w3.heap.size:=qac HR3.out
   have hgT0:¬ T gb:=fun hc=>by have:=H.out.fin gb hc;omega
   have hRj:wr.heap[gb]? = some (.cells #[.int .i64 X.k,.int .i64 X.m,.int .i64 X.u,.int .i64 X.g,.int .i64 X.s,.int .i64 X.l,.int .i64 X.up,.slice q n c] 103 (0,0)):=(t3.block gb hgb3 hgT0).trans HR3.out
   obtain⟨g3,cap3,hv3,hg3b,hg3l⟩:=HO3.out.form (by have:=HKm.out;omega)
   injection hv3 with e1 e2 e3
   subst e1 e3
   clear e2
   have hOj:wr.ownsRow w2.heap.size 3 1 (.slice (some ⟨g3,0,none⟩) K c3) K (ints (X.P.take K)):=by
    have h1:=ybit HO3.out (m:=K) (by have:=HKm.out;omega)
    rw[show (ints X.P).take (K*1)=ints (X.P.take K) by unfold ints;rw[Nat.mul_one,List.map_take]]at h1
    exact qbi h1 fun b hb=>t3.block b (h1.lt b hb).2 (fun hc=>by have h2:=(h1.lt b hb).1;have h3:=H.out.fin b hc;have:=HB2.out.size;omega)
   have HOj:=Lib.hid hOj
   have HRj:=Lib.hid hRj
   have HGB3:Hid (gb<w3.heap.size/\¬ T gb):=⟨hgb3,hgT0⟩
   have HYg:Hid (qcx s.k D ⟨xg.fo,xg.put,X.P.take K⟩ K=some y):=by rw[Hxg.out];exact HY.out
   have HNSg:Hid (qbm xg.fo):=by rw[Hxg.out];exact HNS.out
   have hplg:xg.put.length<800:=by rw[Hxg.out];exact hpl
   have hdlg:xg.dirty.length<900:=by rw[Hxg.out];exact hdl
   have HKW:Hid (qab T w wr):=(qab.of_below (HB2.out.trans (HB3.out.mono HB2.out.size))).trans t3 fun i hi=>Or.inl hi
   clear t1 t2 t3 t4 hOj hgb3 hgT0 hRj
   generalize wr=wg at *
   go_wp2
   go_loopw [8] (fun pv wq=>pv=.slice (some ⟨g3,0,none⟩) K c3/\Hid (wq=wg)) (fun _ _=>0)
   case atStart=>exact⟨rfl,rfl⟩
   case round=>
    obtain⟨rfl,hwq⟩:=hrel
    have hwq2:=hwq.out
    subst hwq2
    have hK2:¬ ((K:Int)<(K:Int)):=by omega
    have s4:wr.cell? ⟨gb,4,none⟩=some (.int .i64 X.s):=(qag HRj.out).2.2.2.2.1
    have s7:wr.cell? ⟨gb,7,none⟩=some (.slice q n c):=(qag HRj.out).2.2.2.2.2.2.2
    have z4:wr.frozen? ⟨gb,4,none⟩=false:=frozen_of_row _ _ _ _ _ HRj.out
    have z7:wr.frozen? ⟨gb,7,none⟩=false:=frozen_of_row _ _ _ _ _ HRj.out
    clear hwq
    go_wp2
    have hj8:K<=8:=hK8
    have hgwr:gb<wr.heap.size:=qac HRj.out
    have hk6:qab (fun i=>i=gb) wr ((wr.setCell ⟨gb,7,none⟩ (.slice (some ⟨g3,0,none⟩) K c3)).setCell ⟨gb,4,none⟩ (.int .i64 (nD:Int))):=(qab.setCell (F:=fun i=>i=gb) (p:=⟨gb,7,none⟩) rfl _).step (qab.setCell (F:=fun i=>i=gb) (p:=⟨gb,4,none⟩) rfl _)
    have hr6:((wr.setCell ⟨gb,7,none⟩ (.slice (some ⟨g3,0,none⟩) K c3)).setCell ⟨gb,4,none⟩ (.int .i64 (nD:Int))).heap[gb]? = some (.cells #[.int .i64 X.k,.int .i64 X.m,.int .i64 X.u,.int .i64 X.g,.int .i64 (nD:Int),.int .i64 X.l,.int .i64 X.up,.slice (some ⟨g3,0,none⟩) K c3] 103 (0,0)):=
     heap_setCell_same _ _ 4 _ _ _ (heap_setCell_same _ _ 7 _ _ _ HRj.out)
    have hTj:=HT1.out
    have hgT:¬ T1 gb:=fun hc=>(HTS.out.1 gb hc).elim HGB3.out.2 (fun h=>by have:=HGB3.out.1;omega)
    have hw3:w.heap.size<=w3.heap.size:=Nat.le_trans HB2.out.size HB3.out.size
    have HLF0:Hid (LF w0 w (fun i=>F i\/i=gb) T gt gf gb xg X nD K ⟨xg.fo,xg.put,X.P.take K⟩ ((wr.setCell ⟨gb,7,none⟩ (.slice (some ⟨g3,0,none⟩) K c3)).setCell ⟨gb,4,none⟩ (.int .i64 (nD:Int)))):=by
     refine⟨⟨T1,(some ⟨g3,0,none⟩),c3,hTj.local (Or.inr rfl) hgT HRj.out (by decide) hk6,fun i hi=>(HTS.out.1 i hi).imp id (fun h=>Nat.le_trans hw3 h),HTS.out.2.2,hgT,hr6,?_,fun b hb=>?_⟩,HKW.out.trans hk6 fun i hi=>Or.inr (by rw[hi];exact hgw)⟩
     ·have h1:qao wr (.slice (some ⟨g3,0,none⟩) K c3) (X.P.take K):=by
       have:=qai.of_owns HOj.out
       have hl:K=(X.P.take K).length:=by rw[List.length_take,Hm.out];have:=HKm.out;omega
       unfold qao
       rw[<-hl]
       exact this
      exact qja h1 fun b hb hl=>hk6.block b hl (fun hc=>by
       have h2:=(HOj.out.lt b hb).1
       rw[hc]at h2
       have:=qac HR2.out
       omega)
     ·have h2:=(HOj.out.lt b hb)
      exact⟨Nat.le_trans HB2.out.size h2.1,fun hc=>by
       rcases HTS.out.1 b hc with h5 | h5
       ·have h6:=H.out.fin b h5
        have:=HB2.out.size
        omega
       ·have h6:=(HO3.out.lt b hb).2
        omega⟩
    generalize (wr.setCell ⟨gb,7,none⟩ (.slice (some ⟨g3,0,none⟩) K c3)).setCell ⟨gb,4,none⟩ (.int .i64 (nD:Int))=w6 at *
    go_loopw [57] (fun iv wq=>∃ (k:Nat) (yk:Fw),k<=K/\iv=.int .i64 k/\Hid (qcx s.k D ⟨xg.fo,xg.put,X.P.take K⟩ k=some yk)/\Hid (LF w0 w (fun i=>F i\/i=gb) T gt gf gb xg X nD K yk wq)) (fun iv _=>K - (intOf iv).toNat)
    case atStart=>exact⟨0,_,Nat.zero_le _,rfl,rfl,HLF0⟩
    case round=>
     obtain⟨k,yk,hkj,rfl,HYK,HLK⟩:=hrel
     by_cases hkl:k<K
     ·obtain⟨⟨T',q',c',hT',t1,t2,t3,hR',hP',hbl'⟩,hkp⟩:=HLK.out
      obtain⟨y1,hy1⟩:=qpd HYg.out (k+1) (by omega)
      have hst:=hy1
      unfold qcx at hst
      rw[HYK.out,Option.bind_some]at hst
      obtain⟨⟨p',fo'⟩,hown,hy1e⟩:=Option.map_eq_some_iff.1 hst
      have hPl:yk.P.length=K:=by
       have:=(qgu HYK.out).1
       rw[this,List.length_take,Hm.out]
       have:=HKm.out;omega
      have hkP:k<yk.P.length:=by omega
      have hgd:yk.P.getD k 0=yk.P[k]:=by rw[List.getD_eq_getElem?_getD,List.getElem?_eq_getElem hkP];rfl
      rw[hgd]at hown
      have hsn:qbm yk.fo:=qoi HNSg.out HYK.out
      obtain⟨ho1,hp256,_⟩:=ybcz (x:={ xg with fo:=yk.fo,put:=yk.put }) (s:=s) hown hsn HF.out.k1
      have hkn:64*k<nD:=by have:=HK.out;rw[HnD.out]at this;omega
      have hcap:nD<=vc:=HV.out.2 _ _ _ rfl
      obtain⟨_,⟨h0,_⟩ | ⟨gv,ov,cv,hvv,hcv⟩⟩:=id HV.out.1
      ·have:=HnD.out;omega
      injection hvv with e1 e2 e3
      subst e1 e3
      clear e2
      have hvw:gv<w.heap.size:=block_lt_of_cell (hcv 0 _ (qcj D 0 (by have:=HnD.out;omega)))
      obtain⟨Z,HZ⟩:∃ Z,Hid (Z=List.replicate 64 (0:Int)):=⟨_,rfl⟩
      have hmk:∀ W:World,(Instr.makeSlice 38 (.int .i64 64) (.int .i64 64)).run Tryz.prog W=.ok (.slice (some ⟨W.heap.size,0,none⟩) 64 64) (W.alloc (.cells (u8s Z).toArray 5)):=fun W=>by
       rw[HZ.out];exact qht 64 64 rfl (by omega) W
      have hcr:∀ (r:Nat) (u:Value),(u8s (D.drop (64*k)))[r]? = some u->(wr.alloc (.cells (u8s Z).toArray 5)).cell? ⟨gv,ov+64*k+r,none⟩=some u:=fun r u hr=>by
       rw[qdq,List.getElem?_drop]at hr
       have h1:=hcv (64*k+r) u hr
       rw[<-Nat.add_assoc]at h1
       rw[World.cell?_alloc_lt _ _ _ (Nat.lt_of_lt_of_le hvw hkp.size),hkp.cell hvw (HVT.out gv rfl)]
       exact h1
      have hcp:=qnm (P:=Tryz.prog) (wr.alloc (.cells (u8s Z).toArray 5)) 38 38 3 5 u8sT qlb wr.heap.size Z (D.drop (64*k)) 5 (heap_alloc_new wr _) (by rw[HZ.out];simp) gv (ov+64*k) (nD - 64*k) (vc - 64*k) (by rw[List.length_drop,HnD.out]) hcr
      obtain⟨W,HW⟩:∃ W,Hid ((wr.alloc (.cells (u8s Z).toArray 5)).setRow wr.heap.size (u8s (over Z 0 ((D.drop (64*k)).take 64))).toArray=W):=⟨_,rfl⟩
      rw[HW.out]at hcp
      obtain⟨nc,Hnc⟩:∃ n,Hid (goInt (u8s ((D.drop (64*k)).take 64)).length=n):=⟨_,rfl⟩
      rw[Hnc.out]at hcp
      have hbW:Below wr.heap.size wr W:=by
       rw[<-HW.out]
       exact Below.setRow ((Below.refl _ _).alloc (Nat.le_refl _) _) (Nat.le_refl _) _
      have hsW:W.heap[wr.heap.size]? = some (.cells (u8s (blkB D k)).toArray 5 (0,0)):=by
       rw[<-HW.out,show blkB D k=over Z 0 ((D.drop (64*k)).take 64) by rw[HZ.out];rfl]
       exact setRow_heap _ _ _ _ _ _ (heap_alloc_new _ _)
      have hbl64:(blkB D k).length=64:=by unfold blkB over;simp;omega
      have hS64:qet W w0.heap.size (.slice (some ⟨wr.heap.size,0,none⟩) 64 64) (blkB D k):=⟨_,64,_,rfl,hbl64,Nat.le_refl _,Nat.le_trans HBB.out.size hkp.size,hsW,by rw[List.take_of_length_le (by rw[List.toList_toArray,qal,hbl64];exact Nat.le_refl _)]⟩
      have hbW0:Below w0.heap.size w0 W:=(HBB.out.trans (hkp.to_below H.out.new HBB.out.size)).trans (hbW.mono (Nat.le_trans HBB.out.size hkp.size))
      have hXW:qao W (.slice q' K c') yk.P:=qai.below hP' hbW
      have HWR:=Lib.hid (qxb HF.out hbW0 (hT'.below hbW) gb { X with P:=yk.P,s:=(nD:Int) } q' K c' (qaa hbW hR') hXW ⟨Or.inr rfl,t3,Nat.le_trans HBB.out.size hgw⟩ k hkP (by rw[hPl];omega) p' hp256 fo' ho1 _ (blkB D k) hS64 (fun b hb hc=>by
       injection hb with hb
       have hb':wr.heap.size=b:=hb
       have:=hT'.fin b hc
       omega) (by have h1:yk.put.length<=xg.put.length+k:=(qgu HYK.out).2;show yk.put.length<900;omega))
      have HKP:=Lib.hid hkp
      have HT1:=Lib.hid t1
      have HT2':=Lib.hid t2
      have HBW:=Lib.hid hbW
      have HPL:=Lib.hid hPl
      have HY1:Hid (qcx s.k D ⟨xg.fo,xg.put,X.P.take K⟩ (k+1)=some ⟨fo',putZ yk.put (p':Int) (blkB D k),yk.P.set k (p':Int)⟩):=by
       show _=_
       rw[hy1,<-hy1e]
      have HFW:Hid (∀ i,T' i->i<wr.heap.size):=hT'.fin
      have HT3:Hid (¬ T' gb/\gb<wr.heap.size):=⟨t3,qac hR'⟩
      have i64:IntKind.i64.wrap (64*(k:Int))=64*(k:Int):=IntWalk.i64_in _ (by omega)
      have hkn2:(64*(k:Int))<=(nD:Int):=by omega
      have hkc:64*k<=vc:=by omega
      have hkc2:¬ vc=64*k:=by omega
      have hkl2:(k:Int)<(K:Int):=by omega
      clear hT' t1 t2 t3 hR' hP' hbl' hkp hy1 hst hown hy1e hPl hkP hgd hsn ho1 hcv hcr hbW hsW hbl64 hS64 hbW0 hXW
      go_wp2_with fail
      refine HWR.out.mono ?_
      rintro e w7 ⟨rfl,T2,g2,c2,hT2,u1,u2,u3,u4,⟨u5,u6,u7⟩,cu2,u8a,u9⟩
      have hpl2:(yk.P.set k (p':Int)).length=K:=by rw[List.length_set,HPL.out]
      have HLN:Hid (LF w0 w (fun i=>F i\/i=gb) T gt gf gb xg X nD K ⟨fo',putZ yk.put (p':Int) (blkB D k),yk.P.set k (p':Int)⟩ w7):=by
       have hwW:w.heap.size<=W.heap.size:=Nat.le_trans HKP.out.size HBW.out.size
       refine⟨⟨T2,some ⟨g2,0,none⟩,c2,hT2,fun r hr=>?_,fun r hr=>u2 r (HT2'.out r hr),fun hc=>?_,?_,?_,fun b hb=>?_⟩,?_⟩
       ·rcases u1 r hr with h1 | h1
        ·exact HT1.out r h1
        ·exact Or.inr (Nat.le_trans hwW h1)
       ·rcases u1 gb hc with h1 | h1
        ·exact HT3.out.1 h1
        ·have:=HT3.out.2
         have:=HBW.out.size
         omega
       ·have:=u4
        rw[show yk.P.length=K from HPL.out]at this
        exact this
       ·refine⟨by simp[ints,HPL.out],Or.inr ⟨g2,0,c2,by rw[hpl2],fun r u hr=>?_⟩⟩
        rw[Nat.zero_add,cell_of_row _ _ _ _ _ _ u8a,<-Array.getElem?_toList]
        have hrl:r<yk.P.length:=by
         have:=(List.getElem?_eq_some_iff.1 hr).1
         simpa[ints]using this
        have h3:(cu2.toList.take yk.P.length)[r]? = some u:=by rw[u9];exact hr
        rwa [List.getElem?_take,if_pos hrl]at h3
       ·injection hb with hb
        have hb':g2=b:=hb
        subst hb'
        exact⟨Nat.le_trans hwW u5,u6⟩
       ·refine (HKP.out.step (qab.of_below HBW.out)).trans u3 fun r hr=>?_
        rcases hr with hr | hr
        ·exact HT1.out r hr
        ·exact Or.inr (by rw[hr];exact hgw)
      clear hT2 u1 u2 u3 u4 u5 u6 u7 u8a u9 HWR HW hcp hmk
      go_wp2
      go_roundw
      case rel=>exact⟨k+1,_,by omega,by go_num,HY1,HLN⟩
      case measure=>simp[intOf];omega
     ·obtain rfl:k=K:=by omega
      obtain⟨⟨T',q',c',hT',t1,t2,t3,hR',hP',hbl'⟩,hkp⟩:=HLK.out
      have hyk:yk=y:=by
       have h1:=HYK.out
       rw[HYg.out]at h1
       injection h1 with h1
       exact h1.symm
      subst hyk
      have hyl:yk.P.length=k:=by
       rw[(qgu HYK.out).1,List.length_take,Hm.out]
       have:=HKm.out;omega
      have hnv:ybgq (fun r=>F r\/T' r) { X with P:=yk.P,s:=(nD:Int) } wr q' k c':=qwn hP' fun b hb _ hG=>by
       obtain⟨b1,b2⟩:=hbl' b hb
       rcases hG with hG | hG
       ·have:=HFF.out b hG;omega
       ·exact b2 hG
      have hTF:TxAt wr w0.heap.size F gt (.pointer (some ⟨gf,0,none⟩)) { xg with fo:=yk.fo,put:=yk.put } T':=hT'.outer fun r _ hr=>Or.inl hr
      have HSE:=Lib.hid (qtc hTF i hi { X with P:=yk.P,s:=(nD:Int) } q' k c' hnv hdlg)
      have HKP:Hid ((∀ r,T' r->T r\/w.heap.size<=r)/\qab T w wr/\∀ r,T r->T' r):=⟨t1,hkp,t2⟩
      obtain⟨z0,z1,z2,z3,z4,z5,z6,z7⟩:=qag hR'
      clear hT' t1 t2 t3 hP' hbl' hkp hnv hTF
      go_wp2_with fail
      refine HSE.out.mono ?_
      rintro e w7 ⟨rfl,T2,s1,s2,s3,s4⟩
      go_wp2
      refine⟨rfl,.tuple #[],(by simp[results,Tryz.results91,go_sem]),?_⟩
      rw[HnD.out]
      have s1':TxAt w7 w0.heap.size F gt (.pointer (some ⟨gf,0,none⟩)) { x with fo:=yk.fo,put:=yk.put,nodes:=x.nodes.set i { X with P:=yk.P,s:=(nD:Int) },dirty:=putZ x.dirty ((i:Int)+1) (.bool true),gone:=x.gone++[X.P.getD ((nD+63) / 64) 0] } T2:=by
       have h9:=s1
       rw[Hxg.out]at h9
       have hK9:(nD+63) / 64=k:=by have h8:=HK.out;rw[HnD.out]at h8;exact h8
       rw[hK9,Hp.out]
       exact h9
      refine⟨rfl,T2,s1',fun r hr=>?_,HKP.out.2.1.trans s3 HKP.out.1,fun r hr=>s4 r (HKP.out.2.2 r hr)⟩
      rcases s2 r hr with h1 | h1
      ·exact HKP.out.1 r h1
      ·exact Or.inr (Nat.le_trans HKP.out.2.1.size h1)
end Go.Proofs.YtpoglnpjadmbpaaGreatDoor
