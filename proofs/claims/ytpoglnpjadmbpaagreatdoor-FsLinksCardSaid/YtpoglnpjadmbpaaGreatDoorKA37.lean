/- Part of the proofs of FsLinks: the texts Fs3, Fs4, Fs5. -/
import Derived.Test.YtpoglnpjadmbpaaGreatDoorKA28
import Derived.Test.YtpoglnpjadmbpaaGreatDoorKA36
set_option maxHeartbeats 16000000
set_option maxRecDepth 100000
namespace Go.Proofs.YtpoglnpjadmbpaaGreatDoor
open Go.RowKit
theorem qww {w:World} {gf:Nat} {s:Fs} {F:Nat->Prop} {B:Nat} {a:Addr} (h:FsAt w gf s F B a) (n:Nat) (hn:n<s.k):(secE s n).length=64:=by
 obtain⟨⟨gl,rv,nv,bt,bh,E,tl,FD,h1,h2,h3,h4,h5,h6,h7,h8,h9,h10,h11,h12,h13,h14,h15,h16,h17⟩,a1,a2,a3,a4,a5,a6,a7⟩:=h
 unfold secE
 rcases h11.get (k:=(n:Int)) with⟨g1,g2⟩ | ⟨v,D,g1,g2,g3⟩
 ·rw[g2];exact qhu h2.lens.2 hn
 ·rw[g2];obtain⟨_,_,_,_,hh,_⟩:=g3;exact hh
theorem ybgb {w:World} {B:Nat} {F F1 T:Nat->Prop} {gt gf:Nat} {fp:Value} {x:Tx} {s:Fs} {a:Addr} {B0:Nat} (h:TxAt w B F gt fp x T) (hf:FsAt w gf s F1 B0 a) (n:Nat) (hn:n<s.k):(secT x s n).length=64:=by
 obtain⟨rv,gn,cn,gd,gp,gv,E,pl,hl⟩:=h.lies
 unfold secT
 rcases hl.secs.get (k:=(n:Int)) with⟨g1,g2⟩ | ⟨v,D,g1,g2,g3⟩
 ·rw[g2];exact qww hf n hn
 ·rw[g2];obtain⟨_,_,_,_,hh,_⟩:=g3;exact hh
theorem qoy {w:World} {B:Nat} {F F1 T:Nat->Prop} {gt gf:Nat} {x:Tx} {s:Fs} {a:Addr} {B0:Nat} (h:TxAt w B F gt (.pointer (some ⟨gf,0,none⟩)) x T) (hf:FsAt w gf s F1 B0 a) (i:Nat) (hi:i<32) (X:Pn) (hX:x.nodes[i]? = some X)
  (hP:qgd X.P s.k) (hPl:X.P.length<=8) (hs:0<=X.s/\X.s<=64*(X.P.length:Int)):
  Calls Tryz.prog 33 #[.pointer (some ⟨gt,0,none⟩),.int .i64 ((i:Int)+1)] w
   (fun e w'=>∃ v,e=.returned v/\w'.ownsRow w.heap.size 5 1 v (qbc (secT x s) X.P X.s).length (u8s (qbc (secT x s) X.P X.s))/\Below w.heap.size w w'):=by
 have HND:=Lib.hid (qkh h i hi X hX)
 have H:=Lib.hid h
 have HF:=Lib.hid hf
 have HLEN:Hid (∀ n,n<s.k->(secT x s n).length=64):=ybgb h hf
 have HPI:=Lib.hid hP
 obtain⟨n,HN⟩:∃ n,Hid (X.P.length=n):=⟨_,rfl⟩
 have hn8:n<=8:=by rw[<-HN.out];exact hPl
 rw[HN.out]at hs
 obtain⟨t,HT⟩:∃ t:Nat,Hid (X.s=(t:Int)):=⟨X.s.toNat,by show _=_;omega⟩
 have ht:t<=64*n:=by have:=HT.out;omega
 obtain⟨Nf,HNf⟩:∃ f,Hid (secT x s=f):=⟨_,rfl⟩
 have HBT:Hid (∀ j (hj:j<X.P.length),qdw x s X.P j=qby Nf X.P[j]):=fun j hj=>by
  unfold qdw qby
  rw[show X.P.getD j 0=X.P[j] by rw[List.getD_eq_getElem?_getD,List.getElem?_eq_getElem hj];rfl,<-HNf.out]
 rw[HNf.out]at HLEN ⊢
 obtain⟨i0,hi0,hz0,hz1,hz2⟩:=info_parts qtd
 have HI0:=Lib.hid hi0
 have HIZ:=Lib.hid hz0
 have HI1:=Lib.hid hz1
 have HI2:=Lib.hid hz2
 clear hi0 hz0 hz1 hz2 h hf hX hP hPl
 go_enter Tryz.func33,Tryz.ntmps33
 go_wp2_with fail
 refine HND.out.mono ?_
 rintro e w1 ⟨q,m,c,rfl,hnv,hb1⟩
 have HB1:=Lib.hid hb1
 have HNV:=Lib.hid hnv
 have hmn:m=n:=by
  have:=hnv.now.1
  obtain⟨_,⟨h0,a0,c0,hv⟩ | ⟨g,o,c0,hv,_⟩⟩:=hnv.now
  ·injection hv with _ e2 _
   have:=HN.out;omega
  ·injection hv with _ e2 _
   have:=HN.out;omega
 subst hmn
 clear hb1 hnv HND
 go_wp2
 obtain⟨gb,Hgb⟩:∃ x,Hid (w1.heap.size=x):=⟨_,rfl⟩
 obtain⟨w2,HW2⟩:∃ x,Hid (w1.alloc (.cells #[.int .i64 X.k,.int .i64 X.m,.int .i64 X.u,.int .i64 X.g,.int .i64 X.s,.int .i64 X.l,.int .i64 X.up,.slice q m c] 103)=x):=⟨_,rfl⟩
 have HB2:Hid (Below w.heap.size w w2):=by show _;rw[<-HW2.out];exact HB1.out.alloc HB1.out.size _
 have HR2:Hid (w2.heap[gb]? = some (.cells #[.int .i64 X.k,.int .i64 X.m,.int .i64 X.u,.int .i64 X.g,.int .i64 X.s,.int .i64 X.l,.int .i64 X.up,.slice q m c] 103 (0,0))):=by show _=_;rw[<-HW2.out,<-Hgb.out];exact heap_alloc_new _ _
 have HP2:Hid (qao w2 (.slice q m c) X.P):=by show _;rw[<-HW2.out];exact qai.below HNV.out.now ((Below.refl _ _).alloc (Nat.le_refl _) _)
 rw[HW2.out,Hgb.out]
 go_loopw [6,14] (fun o iv wr=>∃ j:Nat,j<=m/\iv=.int .i64 j/\Hid (wr.ownsRow w2.heap.size 5 1 o (64*j) (u8s (qdx Nf X.P j)))/\Hid (Below w2.heap.size w2 wr)) (fun _ iv _=>m - (intOf iv).toNat)
 case atStart=>exact⟨0,Nat.zero_le _,rfl,World.ownsRow_nil _ _ _ _,Below.refl _ _⟩
 case round=>
  obtain⟨j,hj,rfl,HO,HB⟩:=hrel
  have HRr:=Lib.hid (qaa HB.out HR2.out)
  obtain⟨z0,z1,z2,z3,z4,z5,z6,z7⟩:=qag HRr.out
  by_cases hlt:j<m
  ·have hjl:j<X.P.length:=by rw[HN.out];exact hlt
   have hlt2:(j:Int)<(m:Int):=by omega
   have HBW:Hid (Below w.heap.size w wr):=HB2.out.trans (HB.out.mono HB2.out.size)
   have HBK:=Lib.hid (ybgh (H.out.below HBW.out) (HF.out.below HBW.out) X q m c (qai.below HP2.out HB.out) j (by omega) HPI.out (by rw[HN.out];exact hn8))
   have HEB:Hid (qdw x s X.P j=qby Nf X.P[j]):=HBT.out j hjl
   have HSN:=Lib.hid (qlf Nf X.P j hjl)
   have hpj:=HPI.out X.P[j] (List.getElem_mem hjl)
   have HBL:=Lib.hid (qod HLEN.out hpj.1 hpj.2)
   rw[HEB.out]at HBK
   obtain⟨bl,Hbl⟩:∃ l:List Int,Hid (qby Nf X.P[j]=l):=⟨qby Nf X.P[j],rfl⟩
   rw[Hbl.out]at HBK HSN HBL
   clear hpj
   go_wp2_with fail
   refine HBK.out.mono ?_
   rintro e w3 ⟨v3,rfl,g3,cap3,cur3,rfl,hcap3,hh3,ht3,hb3⟩
   rw[HBL.out]at hcap3 ht3 ⊢
   have HCB:=Lib.hid (qet.cell (_B:=w2.heap.size) (_cap:=cap3) HBL.out hh3 ht3)
   have HOX:=Lib.hid (qap HO.out hb3)
   have HBX:=Lib.hid hb3
   clear hh3 ht3 hb3
   have hj8:j<=8:=by omega
   have HUL:Hid ((u8s bl).length=64):=by show _=_;rw[qal,HBL.out]
   have HU1:=Lib.hid (qga bl)
   have HSX:Hid (w2.heap.size<=w3.heap.size):=Nat.le_trans HB.out.size HBX.out.size
   go_wp2_with (at_builtin;refine wpList_append_own _ rfl _ _ 38 rfl w2.heap.size 5 i0 (.int .u8 0) 1 1 u8sT HI0.out HIZ.out HI1.out HI2.out rfl (by decide) _ _ _ rfl HOX.out ⟨g3,0,none⟩ 64 cap3 (u8s bl) rfl (by rw[HUL.out]) HCB.out HU1.out (by unfold maxLen;omega) (by omega) HSX.out ?_;intro v5 w5 hown hgrow hnil)
   have HO5:Hid (w5.ownsRow w2.heap.size 5 1 v5 (64*(j+1)) (u8s (qdx Nf X.P (j+1)))):=by
    show _
    rw[HSN.out,qbj,show 64*(j+1)=64*j+64 by omega]
    exact hown
   have HB5:Hid (Below w2.heap.size w2 w5):=Below.grown (Below.step HB.out HBX.out) hgrow (Nat.le_trans HB.out.size HBX.out.size) (fun q hq=>(HOX.out.lt q hq).1)
   clear hown hgrow hnil
   go_wp2
   go_roundw
   case rel=>exact⟨j+1,by omega,by go_num,HO5,HB5⟩
   case measure=>simp[intOf];omega
  ·obtain rfl:j=m:=by omega
   have hlt2:¬ ((j:Int)<(j:Int)):=by omega
   rw[HT.out]at z4
   obtain⟨L,HL⟩:∃ L:Nat,Hid (64*j=L):=⟨_,rfl⟩
   rw[HL.out]at HO ht
   have HBA:Hid (qdx Nf X.P j=X.P.flatMap (qby Nf)):=by show _=_;rw[<-HN.out];exact qub Nf X.P
   have HLL:Hid ((qdx Nf X.P j).length=L):=by show _=_;rw[<-HL.out];exact qoe HLEN.out HPI.out j (by rw[HN.out];exact Nat.le_refl _)
   have HRES:Hid (qbc Nf X.P X.s=(qdx Nf X.P j).take t):=by show _=_;unfold qbc;rw[<-HBA.out,HT.out];rfl
   have HBW:Hid (Below w.heap.size w wr):=HB2.out.trans (HB.out.mono HB2.out.size)
   have hw2:w.heap.size<=w2.heap.size:=HB2.out.size
   obtain⟨ho0,⟨hv,h0⟩ | ⟨gq,cq,cur,rfl,hg',hh,hcp,hf1,hf2,htk⟩⟩:=id HO.out
   ·subst hv
    have hL0:L=0:=by have:=HLL.out;omega
    subst hL0
    obtain rfl:t=0:=by omega
    go_wp2
    go_ret
    refine⟨_,rfl,?_,HBW.out⟩
    rw[HRES.out]
    simp only[List.take_zero]
    exact World.ownsRow_nil _ _ _ _
   ·have HH:=Lib.hid hh
    have HTK:=Lib.hid htk
    have HF1:=Lib.hid hf1
    have HF2:=Lib.hid hf2
    clear hh htk hf1 hf2 ho0
    have HFIN:Hid (wr.ownsRow w.heap.size 5 1 (.slice (some ⟨gq,0,none⟩) t cq) (qbc Nf X.P X.s).length (u8s (qbc Nf X.P X.s))):=by
     have hxl:((qdx Nf X.P j).take t).length=t:=by rw[List.length_take,HLL.out];omega
     show _
     rw[HRES.out,hxl]
     refine⟨by rw[qal,hxl];omega,Or.inr ⟨gq,cq,cur,rfl,Nat.le_trans hw2 hg',HH.out,by omega,HF1.out,HF2.out,?_⟩⟩
     have e2:cur.toList.take (t*1)=(cur.toList.take (L*1)).take t:=by rw[List.take_take];congr 1;omega
     rw[e2,HTK.out,qdf]
    have e1:(t:Int)<=(cq:Int):=by omega
    have e3:t<=cq:=by omega
    go_wp2
    go_ret
    exact⟨_,rfl,HFIN.out,HBW.out⟩
theorem ybgj {w w0:World} {F F1 T:Nat->Prop} {gt gf:Nat} {x:Tx} {s:Fs} {a:Addr} {B0:Nat} (hf:FsAt w0 gf s F1 B0 a) (hb:Below w0.heap.size w0 w) (h:TxAt w w0.heap.size F gt (.pointer (some ⟨gf,0,none⟩)) x T) (hF:∀ i,F i->i<w.heap.size)
  (i:Nat) (hi:i<32) (X:Pn) (hX:x.nodes[i]? = some X) (hP:qgd X.P s.k) (hPl:X.P.length<=8) (hs:0<=X.s/\X.s<=64*(X.P.length:Int)) (e:En)
  (D D':List Int) (hD:qbc (secT x s) X.P X.s=D) (hDB:qco D) (hok:qcn D=true) (hput:qho D e=0) (hD':layD (outD D++[e])=D') (hD5:D'.length<=512) (hg:X.P.length<=(D'.length+63) / 64)
  (hn:qbm x.fo) (y:Fw) (hy:qcx s.k D' ⟨x.fo,x.put,X.P++List.replicate ((D'.length+63) / 64 - X.P.length) 0⟩ ((D'.length+63) / 64)=some y) (hpl:x.put.length<800) (hdl:x.dirty.length<900):
  Calls Tryz.prog 62 #[.pointer (some ⟨gt,0,none⟩),.int .i64 ((i:Int)+1),.string e.1,.int .i64 e.2] w
   (fun r w'=>r=.returned (.int .i64 0)/\qbg w0.heap.size F gt (.pointer (some ⟨gf,0,none⟩)) { x with fo:=y.fo,put:=y.put,nodes:=x.nodes.set i { X with P:=y.P,s:=(D'.length:Int) },dirty:=putZ x.dirty ((i:Int)+1) (.bool true) } T w w'):=by
 have HE:=Lib.hid (qoy h (hf.below hb) i hi X hX hP hPl hs)
 rw[hD]at HE
 have H:=Lib.hid h
 have HFF:=Lib.hid hF
 have HBB:=Lib.hid hb
 have HPU:Hid (∀ (v:Value) (W:World),qbk W v D->Calls Tryz.prog 101 #[v,.agg #[.string e.1,.int .i64 e.2]] W (qlu (outD D++[e]) W)):=fun v W hv=>(ybzf v D e W hv hDB hok).mono fun r w' hr=>by
  rcases hr with⟨_,hr⟩ | ⟨h1,_⟩
  ·exact hr
  ·exact absurd hput h1
 have HFI:Hid (∀ (v:Value) (W:World),Below w.heap.size w W->qbk W v D'->(∀ b,v.ownBlock=some b->w.heap.size<=b)->Calls Tryz.prog 91 #[.pointer (some ⟨gt,0,none⟩),.int .i64 ((i:Int)+1),v] W
   (fun r w'=>r=.returned (.tuple #[])/\qbg w0.heap.size F gt (.pointer (some ⟨gf,0,none⟩)) { x with fo:=y.fo,put:=y.put,nodes:=x.nodes.set i { X with P:=y.P,s:=(D'.length:Int) },dirty:=putZ x.dirty ((i:Int)+1) (.bool true) } T W w')):=fun v W hW hv hvn=>
  ybds hf (HBB.out.trans (hW.mono HBB.out.size)) (H.out.below hW) (fun r hr=>Nat.lt_of_lt_of_le (HFF.out r hr) hW.size) i hi X hX v D' hv (fun b hb hT=>by have:=H.out.fin b hT;have:=hvn b hb;omega) hD5 hg hn y hy hpl hdl
 obtain⟨e1,e2⟩:=e
 dsimp only at HPU HFI ⊢
 clear hf hb h hF hX hP hPl hs hok hput hy hn
 go_enter Tryz.func62,Tryz.ntmps62
 go_wp2_with fail
 refine HE.out.mono ?_
 rintro r w1 ⟨v1,rfl,ho1,hb1⟩
 have HB1:=Lib.hid hb1
 have HO1:Hid (qbk w1 v1 D):=⟨qai.of_owns ho1,qjx ho1⟩
 clear ho1 hb1 HE
 go_wp2_with fail
 refine (HPU.out v1 w1 HO1.out).mono ?_
 rintro r w2 ⟨v2,rfl,hv2,hn2,hb2⟩
 rw[hD']at hv2
 have HV2:=Lib.hid hv2
 have HB2:Hid (Below w.heap.size w w2):=Below.step HB1.out hb2
 have HN2:Hid (∀ b,v2.ownBlock=some b->w.heap.size<=b):=fun b hb=>Nat.le_trans HB1.out.size (hn2 b hb)
 clear hv2 hb2 hn2
 go_wp2_with fail
 refine (HFI.out v2 w2 HB2.out HV2.out HN2.out).mono ?_
 rintro r w3 ⟨rfl,T2,s1,s2,s3,s4⟩
 go_wp2
 go_ret
 refine⟨rfl,T2,s1,fun r hr=>?_,(qab.of_below HB2.out).step s3,s4⟩
 rcases s2 r hr with h1 | h1
 ·exact Or.inl h1
 ·exact Or.inr (Nat.le_trans HB2.out.size h1)
theorem ybzw {w:World} {B:Nat} {F F1 T:Nat->Prop} {gt gf:Nat} {x:Tx} {s:Fs} {a:Addr} {B0:Nat} (h:TxAt w B F gt (.pointer (some ⟨gf,0,none⟩)) x T) (hf:FsAt w gf s F1 B0 a) (hr:s.rows=[]):
  Calls Tryz.prog 94 #[.pointer (some ⟨gt,0,none⟩)] w (fun e w'=>e=.returned (.bool true)/\w=w'):=by
 obtain⟨rv,gn,cn,gd,gp,gv,E,pl,hl⟩:=h.lies
 obtain⟨c0,_⟩:=qbt hl.row
 obtain⟨⟨gl,rv',nv',bt,bh,E',tl,FD,f1,f2,f3,f4,f5,f6,f7,_⟩,_⟩:=hf
 obtain⟨_,_,c194,_⟩:=qev f1
 rw[hr]at f7
 obtain⟨qr,cr,rfl⟩:∃ qr cr,rv'=.slice qr 0 cr:=by
  obtain⟨_,⟨hv,a0,c0,rfl⟩ | ⟨g,o,c,rfl,_⟩⟩:=f7.now
  ·exact⟨a0,c0,rfl⟩
  ·exact⟨_,_,rfl⟩
 clear hl f1 f2 f3 f4 f5 f6 f7
 go_enter Tryz.func94,Tryz.ntmps94
 go_wp2
 go_loopw [14] (fun iv wr=>iv=.int .i64 0/\wr=w) (fun _ _=>0)
 case atStart=>exact⟨rfl,rfl⟩
 case round=>
  obtain⟨rfl,rfl⟩:=hrel
  go_wp2
  go_ret
  simp
theorem ybcd {w:World} {gf:Nat} {s:Fs} {F:Nat->Prop} {B:Nat} {a:Addr} (h:FsAt w gf s F B a) (i:Nat) (hi:i<32) (X:Pn) (hX:s.nodes[i]? = some X) (hk:X.k=2) (hP:qgd X.P s.k) (hPl:X.P.length<=8) (hs:0<=X.s/\X.s<=64*(X.P.length:Int))
  (name:ByteArray) (hnm:qjs name=true) (D:List Int) (hD:qbc (secE s) X.P X.s=D) (hDB:qco D) (hok:qcn D=true):
  Calls Tryz.prog 63 #[.pointer (some ⟨gf,0,none⟩),.int .i64 ((i:Int)+1),.string name] w (fun e w'=>e=.returned (.tuple #[.int .i64 (qee D name).1,.int .i64 (qee D name).2.2])/\Below w.heap.size w w'):=by
 have HNM:=Lib.hid (qqh name)
 rw[hnm]at HNM
 have HDI:=Lib.hid (qyk h i hi X hX)
 rw[hk,if_neg (by omega),if_pos rfl]at HDI
 have H:=Lib.hid h
 have HBG:=Lib.hid (qmn h)
 have HEN:Hid (∀ (gt:Nat) (T:Nat->Prop) (W:World),Below w.heap.size w W->TxAt W w.heap.size F gt (.pointer (some ⟨gf,0,none⟩)) ⟨s.fo,s.rows,s.nodes,[],[],[],false,256⟩ T ->
   Calls Tryz.prog 33 #[.pointer (some ⟨gt,0,none⟩),.int .i64 ((i:Int)+1)] W (fun e w'=>∃ v,e=.returned v/\qbk w' v D/\Below W.heap.size W w')):=fun gt T W hW hT=>by
  have:=qoy hT (h.below hW) i hi X hX hP hPl hs
  have he:secT ⟨s.fo,s.rows,s.nodes,[],[],[],false,256⟩ s=secE s:=by funext n;rfl
  rw[he,hD]at this
  exact this.mono fun e w' ⟨v,h1,h2,h3⟩=>⟨v,h1,⟨qai.of_owns h2,qjx h2⟩,h3⟩
 have HFD:Hid (∀ (v:Value) (W:World),qbk W v D->Calls Tryz.prog 102 #[v,.string name] W (ybkb (qee D name) W)):=fun v W hv=>ybry v D name W hv hDB hok
 obtain⟨r,Hr⟩:∃ r,Hid (qee D name=r):=⟨_,rfl⟩
 rw[Hr.out]at HFD ⊢
 clear h hX hP hPl hs hok hDB
 go_enter Tryz.func63,Tryz.ntmps63
 go_wp2_with fail
 refine (HNM.out _).mono ?_
 rintro e w' ⟨rfl,rfl⟩
 go_wp2_with fail
 refine HDI.out.mono ?_
 rintro e w' ⟨rfl,rfl⟩
 go_wp2_with fail
 refine HBG.out.mono ?_
 rintro e w1 ⟨gt,T,rfl,hb1,hT1⟩
 have HB1:=Lib.hid hb1
 have HT1:=Lib.hid hT1
 clear hb1 hT1
 go_wp2_with fail
 refine (HEN.out gt T w1 HB1.out HT1.out).mono ?_
 rintro e w2 ⟨v,rfl,hv,hb2⟩
 have HV:=Lib.hid hv
 have HB2:=Lib.hid (Below.step HB1.out hb2)
 clear hv hb2
 go_wp2_with fail
 refine (HFD.out v w2 HV.out).mono ?_
 rintro e w3 ⟨rfl,hb3⟩
 have HB3:=Lib.hid (Below.step HB2.out hb3)
 clear hb3
 go_wp2
 go_ret2
 exact⟨rfl,HB3.out⟩
theorem ybmc {w:World} {gf:Nat} {s:Fs} {F:Nat->Prop} {B:Nat} {a:Addr} (h:FsAt w gf s F B a) (i:Nat) (hi:i<32) (X:Pn) (hX:s.nodes[i]? = some X) (hk:X.k=2) (hP:qgd X.P s.k) (hPl:X.P.length<=8) (hs:0<=X.s/\X.s<=64*(X.P.length:Int))
  (name:ByteArray) (hnm:qjs name=true) (D:List Int) (hD:qbc (secE s) X.P X.s=D) (hDB:qco D) (hok:qcn D=true):
  Calls Tryz.prog 22 #[.pointer (some ⟨gf,0,none⟩),.int .i64 ((i:Int)+1),.string name] w (fun e w'=>e=.returned (.tuple #[.int .i64 (qee D name).1,.int .i64 (qee D name).2.2])/\Below w.heap.size w w'):=by
 have HC:=Lib.hid (ybcd h i hi X hX hk hP hPl hs name hnm D hD hDB hok)
 clear h hX hP hPl hs hok hDB
 generalize qee D name=r at *
 go_enter Tryz.func22,Tryz.ntmps22
 go_wp2_with fail
 refine HC.out.mono ?_
 rintro e w1 ⟨rfl,hb1⟩
 have HB1:=Lib.hid hb1
 clear hb1
 go_wp2
 go_ret2
 exact⟨rfl,HB1.out⟩
theorem ybex {w:World} {gf:Nat} {s:Fs} {F:Nat->Prop} {B:Nat} {a:Addr} (h:FsAt w gf s F B a) (i:Nat) (hi:i<32) (X:Pn) (hX:s.nodes[i]? = some X) (hk:X.k=2) (hl:0<X.l) (hP:qgd X.P s.k) (hPl:X.P.length<=8) (hs:0<=X.s/\X.s<=64*(X.P.length:Int))
  (name:ByteArray) (hnm:qjs name=true) (D:List Int) (hD:qbc (secE s) X.P X.s=D) (hDB:qco D) (hok:qcn D=true) (hfd:(qee D name).2.2=4):
  Calls Tryz.prog 61 #[.pointer (some ⟨gf,0,none⟩),.int .i64 ((i:Int)+1),.string name] w (fun e w'=>e=.returned (.int .i64 0)/\Below w.heap.size w w'):=by
 have HC:=Lib.hid (ybcd h i hi X hX hk hP hPl hs name hnm D hD hDB hok)
 rw[hfd]at HC
 have HTH:Hid (∀ W:World,Below w.heap.size w W->Calls Tryz.prog 60 #[.pointer (some ⟨gf,0,none⟩),.int .i64 ((i:Int)+1)] W (fun e w'=>e=.returned (.bool true)/\W=w')):=fun W hW=>by
  have:=qmo (h.below hW) i hi X hX
  rw[show decide (X.k ≠ 0)=true from decide_eq_true (by omega)]at this
  exact this
 have HND:Hid (∀ W:World,Below w.heap.size w W->∃ gn on cn,W.cell? ⟨gf,195,none⟩=some (.slice (some ⟨gn,on,none⟩) 32 cn)/\gn<W.heap.size/\W.cell? ⟨gn,on+i*8+5,none⟩=some (.int .i64 X.l)):=fun W hW=>by
  obtain⟨gn,on,cn,yq,yn,yc,c195,hgn,e0,e1,e2,e3,e4,e5,_⟩:=qdz (h.below hW) i hi X hX
  exact⟨gn,on,cn,c195,hgn,e5⟩
 have i1:IntKind.i64.wrap ((i:Int)+1 - 1)=(i:Int):=by rw[IntWalk.i64_in _ (by omega)];omega
 obtain⟨y,Hy⟩:∃ y,Hid (X.l=y):=⟨_,rfl⟩
 rw[Hy.out]at HND hl
 have d1:decide (0<y)=true:=decide_eq_true hl
 obtain⟨r,Hr⟩:∃ r,Hid ((qee D name).1=r):=⟨_,rfl⟩
 rw[Hr.out]at HC
 clear h hX hP hPl hs hok hDB
 go_enter Tryz.func61,Tryz.ntmps61
 go_wp2_with fail
 refine HC.out.mono ?_
 rintro e w1 ⟨rfl,hb1⟩
 have HB1:=Lib.hid hb1
 clear hb1
 obtain⟨gn,on,cn,c195,hgn,e5⟩:=HND.out w1 HB1.out
 go_wp2_with fail
 refine (HTH.out w1 HB1.out).mono ?_
 rintro e w2 ⟨rfl,rfl⟩
 go_wp2
 go_ret
 exact⟨rfl,HB1.out⟩
theorem ybya {w:World} {gf:Nat} {s:Fs} {F:Nat->Prop} {B:Nat} {a:Addr} (h:FsAt w gf s F B a) (m:Nat) (hm:m<32) (hz:∃ X,s.nodes[m]? = some X/\X.k=0) (hnz:∀ j,j<m->∃ X,s.nodes[j]? = some X/\X.k ≠ 0):
  Calls Tryz.prog 90 #[.pointer (some ⟨gf,0,none⟩)] w (fun e w'=>e=.returned (.tuple #[.int .i64 ((m:Int)+1),.int .i64 0])/\Below w.heap.size w w'):=by
 have H:=Lib.hid h
 have HZ:=Lib.hid hz
 have HNZ:=Lib.hid hnz
 obtain⟨gn,on,cn,c195,hgn⟩:∃ gn on cn,w.cell? ⟨gf,195,none⟩=some (.slice (some ⟨gn,on,none⟩) 32 cn)/\gn<w.heap.size:=by
  obtain⟨X,hX,_⟩:=hz
  obtain⟨gn,on,cn,yq,yn,yc,c195,hgn,_⟩:=qdz h m hm X hX
  exact⟨gn,on,cn,c195,hgn⟩
 have HGN:=Lib.hid c195
 clear h hz hnz
 go_enter Tryz.func90,Tryz.ntmps90
 go_wp2
 go_loopw [11] (fun iv wr=>∃ j:Nat,j<=m/\iv=.int .i64 j/\Hid (Below w.heap.size w wr)) (fun iv _=>m - (intOf iv).toNat)
 case atStart=>exact⟨0,Nat.zero_le _,rfl,Below.refl _ _⟩
 case round=>
  obtain⟨j,hj,rfl,HB⟩:=hrel
  have hj32:j<32:=by omega
  have hj32':(j:Int)<32:=by omega
  obtain⟨X,hX,hXk⟩:∃ X,s.nodes[j]? = some X/\(X.k=0 ↔ j=m):=by
   by_cases hjm:j=m
   ·obtain⟨X,h1,h2⟩:=HZ.out
    exact⟨X,by rw[hjm];exact h1,by simp[h2,hjm]⟩
   ·obtain⟨X,h1,h2⟩:=HNZ.out j (by omega)
    exact⟨X,h1,by simp[h2,hjm]⟩
  obtain⟨gn',on',cn',yq,yn,yc,c,hgn',e0,e1,e2,e3,e4,e5,e6,e7,_⟩:=qdz (H.out.below HB.out) j hj32 X hX
  have hcc:=(HB.out.cell (p:=⟨gf,195,none⟩) (block_lt_of_cell HGN.out)).trans HGN.out
  rw[hcc]at c
  injection c with c
  injection c with c1 _ c2
  injection c1 with c1
  injection c1 with c1 c3
  subst c1 c3 c2
  obtain⟨y,Hy⟩:∃ y,Hid (X.k=y):=⟨_,rfl⟩
  rw[Hy.out]at e0 hXk
  have hgw:¬ gn=wr.heap.size:=by omega
  by_cases hjm:j=m
  ·obtain rfl:y=0:=hXk.2 hjm
   subst hjm
   have HBE:Hid (Below w.heap.size w (wr.alloc (.cells #[.int .i64 0,.int .i64 X.m,.int .i64 X.u,.int .i64 X.g,.int .i64 X.s,.int .i64 X.l,.int .i64 X.up,.slice yq yn yc] 103))):=HB.out.alloc HB.out.size _
   go_wp2
   go_ret2
   exact⟨rfl,HBE.out⟩
  ·have hy:¬ y=0:=fun hc=>hjm (hXk.1 hc)
   have b0:(y == 0)=false:=by simpa using hy
   have HBE:Hid (Below w.heap.size w (wr.alloc (.cells #[.int .i64 y,.int .i64 X.m,.int .i64 X.u,.int .i64 X.g,.int .i64 X.s,.int .i64 X.l,.int .i64 X.up,.slice yq yn yc] 103))):=HB.out.alloc HB.out.size _
   go_wp2
   go_roundw
   case rel=>exact⟨j+1,by omega,by go_num,HBE⟩
   case measure=>simp[intOf];omega
def dfF (w:World) (gt gp n:Nat) (v:Value) (D:List Int) (i:Nat) (u:Value) (W:World):Prop:=
 if i=2 then u=.pointer (some ⟨gt,196,none⟩) else if i=3 then u=.map (some gp) else if i=4 then u=.int .i64 (n:Int) else if i=5 then u=v else if i=6 then qet W w.heap.size u D else u=.pointer (some ⟨gt,0,none⟩)
theorem ybrj {w:World} {gt gp n:Nat} {v:Value} {D:List Int} (j:Nat) (u:Value) (W W':World) (hb:Below W.heap.size W W') (h:dfF w gt gp n v D j u W):dfF w gt gp n v D j u W':=by
 unfold dfF at h ⊢
 by_cases c:j=2
 ·rw[if_pos c]at h ⊢;exact h
 rw[if_neg c]at h ⊢;clear c
 by_cases c:j=3
 ·rw[if_pos c]at h ⊢;exact h
 rw[if_neg c]at h ⊢;clear c
 by_cases c:j=4
 ·rw[if_pos c]at h ⊢;exact h
 rw[if_neg c]at h ⊢;clear c
 by_cases c:j=5
 ·rw[if_pos c]at h ⊢;exact h
 rw[if_neg c]at h ⊢;clear c
 by_cases c:j=6
 ·rw[if_pos c]at h ⊢;exact qgp h fun g _ _ hc=>hb.block g (qac hc)
 rw[if_neg c]at h ⊢;exact h
theorem ybal {w w0:World} {F F1 T:Nat->Prop} {gt gf:Nat} {x:Tx} {s:Fs} {a:Addr} {B0:Nat} (hf:FsAt w0 gf s F1 B0 a) (hb:Below w0.heap.size w0 w) (h:TxAt w w0.heap.size F gt (.pointer (some ⟨gf,0,none⟩)) x T)
  (n:Nat) (hn:n<s.k) (v:Value) (D:List Int) (hv:qaf w v D) (hD:D.length=64) (hpl:x.put.length<900):
  Calls Tryz.prog 141 #[.pointer (some ⟨gt,0,none⟩),.int .i64 (n:Int),v] w
   (fun e w'=>e=.returned (.tuple #[])/\qbg w0.heap.size F gt (.pointer (some ⟨gf,0,none⟩)) { x with put:=if eqB (secE s n) D=true then x.put else putZ x.put (n:Int) D } T w w'):=by
 obtain⟨rv,gn,cn,gd,gp,gv,E,pl,hl⟩:=h.lies
 obtain⟨c0,c193,c194,c195,c196,c197,c198,c199⟩:=qbt hl.row
 have H:=Lib.hid h
 have HL:=Lib.hid hl
 have HBB:=Lib.hid hb
 have HV:=Lib.hid hv
 have HSC:=Lib.hid (qrq (hf.below hb) n hn)
 have HEL:=Lib.hid (qww hf n hn)
 have HKS:Hid (s.k<=256):=hf.k1
 have hnz:(n:Int)<1000:=by have:=hf.k1;omega
 have HPL:Hid (pl.length<900):=by show _;rw[hl.secs.len];exact hpl
 clear h hl hf hb hv hpl
 obtain⟨S,HS⟩:∃ S,Hid (secE s n=S):=⟨_,rfl⟩
 rw[HS.out]at HSC HEL ⊢
 obtain⟨b,Hb⟩:∃ b,Hid (eqB S D=b):=⟨_,rfl⟩
 rw[Hb.out]
 go_enter Tryz.func141,Tryz.ntmps141
 go_wp2_with fail
 refine HSC.out.mono ?_
 rintro e w1 ⟨v1,rfl,hv1⟩
 have HB1:=Lib.hid hv1.below
 have HV1:=Lib.hid hv1.at
 clear hv1
 have HEQ:=Lib.hid (qdy v1 v S D w1 HV1.out (qai.below HV.out HB1.out) (by rw[HEL.out,hD]) (by rw[HEL.out];omega))
 rw[Hb.out]at HEQ
 go_wp2_with fail
 refine HEQ.out.mono ?_
 rintro e w2 ⟨rfl,hb2⟩
 have HB2:Hid (Below w.heap.size w w2):=Below.step HB1.out hb2
 clear hb2
 cases b with
 | true=>
  go_wp2
  go_end0
  exact⟨rfl,qbg.same H.out HB2.out⟩
 | false=>
  have HLA:=Lib.hid (HL.out.below HB2.out)
  have HHA:=Lib.hid (H.out.below HB2.out)
  have HVA:Hid (qaf w2 v D):=qai.below HV.out HB2.out
  have HW2:Hid (w.heap.size<=w2.heap.size):=HB2.out.size
  clear c0 c193 c194 c195 c196 c197 c198 c199
  go_upto_region 2 with fail
  refine qld (by kernel_rfl) (by kernel_rfl) (fun u u'=>Below u.heap.size u u') ((Below.refl _ _).drew) (fun u u' h1 h2=>Below.step h1 h2) 28 (fun i=>i+21) (dfF w2 gt gp n v D) (fun _ _=>False)
   (fun k u=>(k=0/\u=.pointer (some ⟨gt,0,none⟩))\/(k=1/\u=.int .i64 (n:Int))\/(k=2/\u=v)) ybrj (fun _ _ hc=>hc.elim) (fun i j hij=>by omega) (fun i k u hk=>by rcases hk with⟨rfl,_⟩ | ⟨rfl,_⟩ | ⟨rfl,_⟩ <;> omega) 7 (by kernel_rfl) (by kernel_rfl) ⟨rfl,rfl,fun k u hk=>?_⟩ ?_ ?_
  ·rcases hk with⟨rfl,rfl⟩ | ⟨rfl,rfl⟩ | ⟨rfl,rfl⟩ <;> rfl
  ·intro Dn b u hI i o hi7 ho hD' ha
   have hp0:=hI.old 0 _ (Or.inl ⟨rfl,rfl⟩)
   have hp1:=hI.old 1 _ (Or.inr (Or.inl ⟨rfl,rfl⟩))
   have hp2:=hI.old 2 _ (Or.inr (Or.inr ⟨rfl,rfl⟩))
   match i,hi7,ho,hD',ha with
   | 0,_,ho,_,ha=>
    simp only[List.getElem?_cons_zero,Option.some.injEq]at ho
    subst ho
    exact qaq (.tmp 0) rfl ⟨_,rfl,Below.refl _ _,hp0,fun _ hc=>hc.elim⟩
   | 1,_,ho,_,ha=>
    simp only[List.getElem?_cons_zero,List.getElem?_cons_succ,Option.some.injEq]at ho
    subst ho
    have e0:=hI.fact 0 (ha ⟨0,.data⟩ (by simp) rfl)
    exact qbx (.tmp 21) rfl ⟨gt,0,none⟩ e0 ⟨_,rfl,Below.refl _ _,rfl,fun _ hc=>hc.elim⟩
   | 2,_,ho,_,ha=>
    simp only[List.getElem?_cons_zero,List.getElem?_cons_succ,Option.some.injEq]at ho
    subst ho
    have e1:=hI.fact 1 (ha ⟨1,.data⟩ (by simp) rfl)
    exact qae (v:=.pointer (some ⟨gt,196,none⟩)) (w':=u) (by unfold execOp;simp only[Act.eval];rw[show b.tmps.getD 22 undef=_ from e1];simp[go_sem]) ⟨_,rfl,Below.refl _ _,rfl,fun _ hc=>hc.elim⟩
   | 3,_,ho,_,ha=>
    simp only[List.getElem?_cons_zero,List.getElem?_cons_succ,Option.some.injEq]at ho
    subst ho
    have e2:=hI.fact 2 (ha ⟨2,.data⟩ (by simp) rfl)
    obtain⟨_,_,_,_,c196,_⟩:=qbt (qaa hI.b HLA.out.row)
    exact qae (v:=.map (some gp)) (w':=u) (by unfold execOp;simp only[Act.eval];rw[show b.tmps.getD 23 undef=_ from e2];simp[go_sem,c196]) ⟨_,rfl,Below.refl _ _,rfl,fun _ hc=>hc.elim⟩
   | 4,_,ho,_,ha=>
    simp only[List.getElem?_cons_zero,List.getElem?_cons_succ,Option.some.injEq]at ho
    subst ho
    exact qaq (.tmp 1) rfl ⟨_,rfl,Below.refl _ _,hp1,fun _ hc=>hc.elim⟩
   | 5,_,ho,_,ha=>
    simp only[List.getElem?_cons_zero,List.getElem?_cons_succ,Option.some.injEq]at ho
    subst ho
    exact qaq (.tmp 2) rfl ⟨_,rfl,Below.refl _ _,hp2,fun _ hc=>hc.elim⟩
   | 6,_,ho,_,ha=>
    simp only[List.getElem?_cons_zero,List.getElem?_cons_succ,Option.some.injEq]at ho
    subst ho
    have e5:b.tmps.getD 26 undef=v:=hI.fact 5 (ha ⟨5,.data⟩ (by simp) rfl)
    refine qoh 98 #[.tmp 26] #[38] rfl (fun _ _=>by kernel_rfl) #[v] (by simp only[List.map_toArray,List.map_cons,List.map_nil,Act.eval];rw[e5];rfl) (fun v' w'=>qes D u v' w')
     ((qgr v D u (qai.below HVA.out hI.b) (by omega) (by omega)).mono fun e w' ⟨v',he,x1⟩=>⟨v',he,x1⟩) ?_
    rintro v' w' ⟨g,cap,cur,q1,q2,q3,q4,q5⟩
    exact⟨_,rfl,q5,⟨g,cap,cur,by rw[q1,hD],hD,by rw[<-hD];exact q2.2,Nat.le_trans hI.b.size q2.1,q3,by rw[<-hD];exact q4⟩,fun _ hc=>hc.elim⟩
  ·intro Dn b u hI hall o ho
   simp only[List.getElem?_cons_zero,List.getElem?_cons_succ,Option.some.injEq]at ho
   subst ho
   have e3:b.tmps.getD 24 undef=.map (some gp):=hI.fact 3 (hall 3 (by omega))
   have e4:b.tmps.getD 25 undef=.int .i64 (n:Int):=hI.fact 4 (hall 4 (by omega))
   have e6:qet u w2.heap.size (b.tmps.getD 27 undef) D:=hI.fact 6 (hall 6 (by omega))
   have hLu:=HLA.out.below hI.b
   generalize hu6:b.tmps.getD 27 undef=u6 at e6
   obtain⟨w6,hrun,hm6,ht6⟩:=hLu.puts.store intT qpu (by have:=HPL.out;omega) (k:=(n:Int)) (by unfold InZ;omega) u6
   refine qvi (w':=w6) (by unfold execOp;simp only[Act.eval];rw[e3,e4,hu6];simp[hrun,Result.andThen]) ?_
   have hk6:qab (fun i=>i=gp) u w6:=qab.grown ht6.grown (fun r hr=>by injection hr with hr;exact hr.symm)
   have hB2u:=Below.step HB2.out hI.b
   refine⟨hI.dfs,.tuple #[],(by simp[results,Tryz.results141,go_sem]),rfl,T,?_,fun _ hi=>Or.inl hi,(qab.of_below hB2u).step (hk6.mono fun i _ hi=>by rw[hi];exact HL.out.tp),fun _ hi=>hi⟩
   rw[if_neg (by decide)]
   exact hLu.putMap (HHA.out.below hI.b) (n:Int) _ D (e6.mono (Nat.le_trans HBB.out.size HW2.out)) hk6 hm6 (by have:=HPL.out;rw[<-HL.out.secs.len];omega)
end Go.Proofs.YtpoglnpjadmbpaaGreatDoor
