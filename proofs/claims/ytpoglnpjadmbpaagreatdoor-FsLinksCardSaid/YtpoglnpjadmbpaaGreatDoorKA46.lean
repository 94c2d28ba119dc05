/- Part of the proofs of FsLinks: the texts TxK, FsU, Fs9, FsK, HolesP, Filed5, NameK, QRun, FsAll, HolesLaw, FreshLaw, CutOps. -/
import Derived.Test.YtpoglnpjadmbpaaGreatDoorKA45
import Derived.Lib.SlBytesConst
set_option maxHeartbeats 16000000
set_option maxRecDepth 100000
namespace Go.Proofs.YtpoglnpjadmbpaaGreatDoor
open Go.RowKit
theorem ybvc {w w0:World} {F F1 T:Nat->Prop} {gt gf:Nat} {x:Tx} {s:Fs} {a:Addr} {B0:Nat} (hf:FsAt w0 gf s F1 B0 a) (hb:Below w0.heap.size w0 w) (h:TxAt w w0.heap.size F gt (.pointer (some ⟨gf,0,none⟩)) x T) (hF:∀ i,F i->i<w.heap.size)
  (i:Nat) (hi:i<32) (X:Pn) (hX:x.nodes[i]? = some X) (hP:qgd X.P s.k) (hPl:X.P.length<=8) (hs:0<=X.s/\X.s<=64*(X.P.length:Int)) (name:ByteArray)
  (D D':List Int) (hD:qbc (secT x s) X.P X.s=D) (hDB:qco D) (hok:qcn D=true) (ix:Nat) (hix:∀ (i:Nat) (h:i<(outD D).length),decide (name=(outD D)[i].1)=true->i=ix) (hin:∃ x ∈ outD D,decide (name=x.1)=true)
  (hD':layD ((outD D).eraseIdx ix)=D') (hD5:D'.length<=512) (hg:X.P.length=(D'.length+63) / 64\/X.P.length=(D'.length+63) / 64+1) (hgn:x.gone.length<=900)
  (hn:qbm x.fo) (y:Fw) (hy:qcx s.k D' ⟨x.fo,x.put,X.P.take ((D'.length+63) / 64)⟩ ((D'.length+63) / 64)=some y) (hpl:x.put.length<800) (hdl:x.dirty.length<900) (G:List Int) (hG:G=if X.P.length=(D'.length+63) / 64 then x.gone else x.gone++[X.P.getD ((D'.length+63) / 64) 0]):
  Calls Tryz.prog 65 #[.pointer (some ⟨gt,0,none⟩),.int .i64 ((i:Int)+1),.string name] w
   (fun r w'=>r=.returned (.tuple #[])/\qbg w0.heap.size F gt (.pointer (some ⟨gf,0,none⟩)) { x with fo:=y.fo,put:=y.put,nodes:=x.nodes.set i { X with P:=y.P,s:=(D'.length:Int) },dirty:=putZ x.dirty ((i:Int)+1) (.bool true),gone:=G } T w w'):=by
 have HE:=Lib.hid (qoy h (hf.below hb) i hi X hX hP hPl hs)
 rw[hD]at HE
 have H:=Lib.hid h
 have HFF:=Lib.hid hF
 have HBB:=Lib.hid hb
 have HPU:Hid (∀ (v:Value) (W:World),qbk W v D->Calls Tryz.prog 103 #[v,.string name] W (qlu ((outD D).eraseIdx ix) W)):=fun v W hv=>(ybza v D name W hv hDB hok).mono fun r w' hr=>by
  rcases hr with⟨hno,_⟩ | ⟨j,hj,hj2,hr⟩
  ·obtain⟨z,hz,hz2⟩:=hin
   rw[hno z hz]at hz2;cases hz2
  ·rw[hix j hj hj2]at hr
   exact hr
 have HFI:Hid (∀ (v:Value) (W:World),Below w.heap.size w W->qbk W v D'->(∀ b,v.ownBlock=some b->w.heap.size<=b)->Calls Tryz.prog 91 #[.pointer (some ⟨gt,0,none⟩),.int .i64 ((i:Int)+1),v] W
   (fun r w'=>r=.returned (.tuple #[])/\qbg w0.heap.size F gt (.pointer (some ⟨gf,0,none⟩)) { x with fo:=y.fo,put:=y.put,nodes:=x.nodes.set i { X with P:=y.P,s:=(D'.length:Int) },dirty:=putZ x.dirty ((i:Int)+1) (.bool true),gone:=G } T W w')):=fun v W hW hv hvn=>by
  rcases hg with hg | hg
  ·rw[hG,if_pos hg]
   have hy2:qcx s.k D' ⟨x.fo,x.put,X.P++List.replicate ((D'.length+63) / 64 - X.P.length) 0⟩ ((D'.length+63) / 64)=some y:=by
    rw[show (D'.length+63) / 64 - X.P.length=0 by omega,List.replicate_zero,List.append_nil]
    rw[List.take_of_length_le (by omega)]at hy
    exact hy
   exact ybds hf (HBB.out.trans (hW.mono HBB.out.size)) (H.out.below hW) (fun r hr=>Nat.lt_of_lt_of_le (HFF.out r hr) hW.size) i hi X hX v D' hv (fun b hb hT=>by have:=H.out.fin b hT;have:=hvn b hb;omega) hD5 (by omega) hn y hy2 hpl hdl
  ·rw[hG,if_neg (by omega)]
   exact ybva hf (HBB.out.trans (hW.mono HBB.out.size)) (H.out.below hW) (fun r hr=>Nat.lt_of_lt_of_le (HFF.out r hr) hW.size) i hi X hX v D' hv (fun b hb hT=>by have:=H.out.fin b hT;have:=hvn b hb;omega) hD5 hg hPl hgn hn y hy hpl hdl
 clear hf hb h hF hX hP hPl hs hok hix hin hy hn hG hg hgn
 go_enter Tryz.func65,Tryz.ntmps65
 go_wp2_with fail
 refine HE.out.mono ?_
 rintro r w1 ⟨v1,rfl,ho1,hb1⟩
 have HB1:=Lib.hid hb1
 have HO1:Hid (qbk w1 v1 D):=⟨qai.of_owns ho1,qjx ho1⟩
 clear ho1 hb1 HE
 go_wp2_with fail
 refine (HPU.out v1 w1 HO1.out).mono ?_
 rintro r w2 ⟨v2,rfl,hv2,hn2,hb2⟩
 rw[hD']at hv2
 have HV2:=Lib.hid hv2
 have HB2:Hid (Below w.heap.size w w2):=Below.step HB1.out hb2
 have HN2:Hid (∀ b,v2.ownBlock=some b->w.heap.size<=b):=fun b hb=>Nat.le_trans HB1.out.size (hn2 b hb)
 clear hv2 hb2 hn2
 go_wp2_with fail
 refine (HFI.out v2 w2 HB2.out HV2.out HN2.out).mono ?_
 rintro r w3 ⟨rfl,T2,s1,s2,s3,s4⟩
 go_wp2
 refine⟨rfl,.tuple #[],(by simp[results,Tryz.results65,go_sem]),?_⟩
 refine⟨rfl,T2,s1,fun r hr=>?_,(qab.of_below HB2.out).step s3,s4⟩
 rcases s2 r hr with h1 | h1
 ·exact Or.inl h1
 ·exact Or.inr (Nat.le_trans HB2.out.size h1)
def qme (N:Pn):Pn:=if N.l=1 then zN else { N with l:=N.l - 1 }
def ybbk (N:Pn) (G:List Int):List Int:=if N.l=1 then G++nzF N.P else G
def qon (X:Pn) (D':List Int):List Int:=if X.P.length=(D'.length+63) / 64 then [] else []++[X.P.getD ((D'.length+63) / 64) 0]
def unTx (s:Fs) (X N:Pn) (D':List Int) (y:Fw):Tx:=⟨y.fo,s.rows,(s.nodes.set 0 { X with P:=y.P,s:=(D'.length:Int) }).set 1 (qme N),[(1,.bool true),(2,.bool true)],y.put,ybbk N (qon X D'),false,256⟩
structure ybed (s : Fs) (name : ByteArray) (X N : Pn) (D D' : List Int) (ix : Nat) (y : Fw) (p0 : Nat) : Prop where
 hX:s.nodes[0]? = some X
 hN:s.nodes[1]? = some N
 kN:N.k=1
 lN:0<N.l/\N.l<=200
 pN:N.P.length<=8
 bN:qgd N.P s.k
 hk:X.k=2
 hP:qgd X.P s.k
 hPl:X.P.length<=8
 hs:0<=X.s/\X.s<=64*(X.P.length:Int)
 hnm:qjs name=true
 hD:qbc (secE s) X.P X.s=D
 hDB:qco D
 hok:qcn D=true
 hfd:(qee D name).1=2/\(qee D name).2.2=0
 hix:∀ (i:Nat) (h:i<(outD D).length),decide (name=(outD D)[i].1)=true->i=ix
 hin:∃ x ∈ outD D,decide (name=x.1)=true
 hD':layD ((outD D).eraseIdx ix)=D'
 hD5:D'.length<=512
 hg:X.P.length=(D'.length+63) / 64\/X.P.length=(D'.length+63) / 64+1
 hn:qbm s.fo
 hy:qcx s.k D' ⟨s.fo,[],X.P.take ((D'.length+63) / 64)⟩ ((D'.length+63) / 64)=some y
 hrows:s.rows=[]
 hp0:y.fo.nd 0 0=(p0:Int)
 hp1:0<p0
 hp2:p0<256
 hny:qbm y.fo
 hr0:qdt { X with P:=y.P,s:=(D'.length:Int) }=0
 hr1:qdt (qme N)=0
 hl0:(qbf { X with P:=y.P,s:=(D'.length:Int) }).length=32
 hl1:(qbf (qme N)).length=32
 hr:qbn (qeu (unTx s X N D' y) { X with P:=y.P,s:=(D'.length:Int) } (qme N)).fo=0
 hlen:s.todo.length+y.put.length<=24
def unFs (s:Fs) (X N:Pn) (D':List Int) (y:Fw):Fs:=qhs s (qeu (unTx s X N D' y) { X with P:=y.P,s:=(D'.length:Int) } (qme N))
theorem ybmf {w:World} {gf:Nat} {s:Fs} {F:Nat->Prop} {B:Nat} {a:Addr} (h:FsAt w gf s F B a) (hB:B<=w.heap.size) {name:ByteArray} {X N:Pn} {D D':List Int} {ix:Nat} {y:Fw} {p0:Nat} (hm:ybed s name X N D D' ix y p0):
  Calls Tryz.prog 24 #[.pointer (some ⟨gf,0,none⟩),.int .i64 1,.string name] w
   (fun e w'=>e=.returned (.int .i64 0)/\FsAt w' gf (unFs s X N D' y) F B a/\qab F w w'):=by
 have H:=Lib.hid h
 have HM:=Lib.hid hm
 have hfi:=ybcd h 0 (by omega) X hm.hX hm.hk hm.hP hm.hPl hm.hs name hm.hnm D hm.hD hm.hDB hm.hok
 rw[hm.hfd.1,hm.hfd.2]at hfi
 have HFI:Hid (Calls Tryz.prog 63 #[.pointer (some ⟨gf,0,none⟩),.int .i64 1,.string name] w (fun e w'=>e=.returned (.tuple #[.int .i64 2,.int .i64 0])/\Below w.heap.size w w')):=hfi
 have HND:Hid (∀ W:World,Below w.heap.size w W->∃ gn on cn yq yn yc,W.cell? ⟨gf,195,none⟩=some (.slice (some ⟨gn,on,none⟩) 32 cn)/\gn<W.heap.size/\W.cell? ⟨gn,on+8,none⟩=some (.int .i64 1)/\W.cell? ⟨gn,on+8+1,none⟩=some (.int .i64 N.m)/\W.cell? ⟨gn,on+8+2,none⟩=some (.int .i64 N.u)/\W.cell? ⟨gn,on+8+3,none⟩=some (.int .i64 N.g)/\W.cell? ⟨gn,on+8+4,none⟩=some (.int .i64 N.s)/\W.cell? ⟨gn,on+8+5,none⟩=some (.int .i64 N.l)/\W.cell? ⟨gn,on+8+6,none⟩=some (.int .i64 N.up)/\W.cell? ⟨gn,on+8+7,none⟩=some (.slice yq yn yc)):=fun W hW=>by
  obtain⟨gn,on,cn,yq,yn,yc,c195,hgn,e0,e1,e2,e3,e4,e5,e6,e7,_⟩:=qdz (h.below hW) 1 (by omega) N hm.hN
  exact⟨gn,on,cn,yq,yn,yc,c195,hgn,by rw[hm.kN]at e0;exact e0,e1,e2,e3,e4,e5,e6,e7⟩
 have hlen32:=h.len
 have hLV:∀ (W0 W:World) (gt:Nat) (T:Nat->Prop),Below w.heap.size w W0->Below W0.heap.size W0 W->TxAt W W0.heap.size F gt (.pointer (some ⟨gf,0,none⟩)) (tx0 s) T ->
   Calls Tryz.prog 65 #[.pointer (some ⟨gt,0,none⟩),.int .i64 1,.string name] W
    (fun e w'=>e=.returned (.tuple #[])/\qbg W0.heap.size F gt (.pointer (some ⟨gf,0,none⟩)) { tx0 s with fo:=y.fo,put:=y.put,nodes:=s.nodes.set 0 { X with P:=y.P,s:=(D'.length:Int) },dirty:=[(1,.bool true)],gone:=qon X D' } T W w'):=fun W0 W gt T hW0 hW hT=>
  ybvc (h.below hW0) hW hT (fun i hi=>Nat.lt_of_lt_of_le (h.fin i hi) (Nat.le_trans hW0.size hW.size)) 0 (by omega) X hm.hX hm.hP hm.hPl hm.hs name D D' hm.hD hm.hDB hm.hok ix hm.hix hm.hin hm.hD' hm.hD5 hm.hg (by show (0:Nat)<=900;omega) hm.hn y hm.hy (by show (0:Nat)<800;omega) (by show (0:Nat)<900;omega) (qon X D') rfl
 have HLV:=Lib.hid hLV
 have hGl:(qon X D').length<=1:=by unfold qon;split <;> simp
 have hN1:(s.nodes.set 0 { X with P:=y.P,s:=(D'.length:Int) })[1]? = some N:=by rw[List.getElem?_set_ne (by omega)];exact hm.hN
 have HDR:Hid (∀ (W0 W:World) (gt:Nat) (T:Nat->Prop),Below w.heap.size w W0->Below W0.heap.size W0 W->TxAt W W0.heap.size F gt (.pointer (some ⟨gf,0,none⟩)) { tx0 s with fo:=y.fo,put:=y.put,nodes:=s.nodes.set 0 { X with P:=y.P,s:=(D'.length:Int) },dirty:=[(1,.bool true)],gone:=qon X D' } T ->
   Calls Tryz.prog 66 #[.pointer (some ⟨gt,0,none⟩),.int .i64 2] W
    (fun e w'=>e=.returned (.tuple #[])/\qbg W0.heap.size F gt (.pointer (some ⟨gf,0,none⟩)) (unTx s X N D' y) T W w')):=fun W0 W gt T hW0 hW hT=>
  ybzv (h.below hW0) hW hT (fun i hi=>Nat.lt_of_lt_of_le (h.fin i hi) (Nat.le_trans hW0.size hW.size)) 1 (by omega) N hN1 hm.lN hm.pN (by show (qon X D').length<=900;omega) (by show (1:Nat)<890;omega) (unTx s X N D' y) (by
   unfold unTx qme ybbk
   by_cases h1:N.l=1
   ·rw[if_pos h1,if_pos h1,if_pos h1,List.set_set]
    rfl
   ·rw[if_neg h1,if_neg h1,if_neg h1]
    rfl)
 have hgin:∀ p ∈ (unTx s X N D' y).gone,0<=p/\p<(s.k:Int):=fun p hp=>by
  have hX':p ∈ qon X D'->0<=p/\p<(s.k:Int):=fun hp=>by
   unfold qon at hp
   split at hp
   ·cases hp
   ·have h1:p=X.P.getD ((D'.length+63) / 64) 0:=by simpa using hp
    have h2:(D'.length+63) / 64<X.P.length:=by have:=hm.hg;omega
    rw[List.getD_eq_getElem?_getD,List.getElem?_eq_getElem h2,Option.getD_some]at h1
    rw[h1]
    exact hm.hP _ (List.getElem_mem h2)
  have hp2:p ∈ ybbk N (qon X D'):=hp
  unfold ybbk at hp2
  split at hp2
  ·rcases List.mem_append.1 hp2 with h1 | h1
   ·exact hX' h1
   ·exact hm.bN p (List.mem_filter.1 h1).1
  ·exact hX' hp2
 have HEND:Hid (∀ (W0 W:World) (gt:Nat) (T:Nat->Prop),Below w.heap.size w W0->Below W0.heap.size W0 W->TxAt W W0.heap.size F gt (.pointer (some ⟨gf,0,none⟩)) (unTx s X N D' y) T ->
   Calls Tryz.prog 54 #[.pointer (some ⟨gt,0,none⟩)] W
    (fun e w'=>e=.returned (.int .i64 0)/\FsAt w' gf (unFs s X N D' y) F B a/\qab F W0 w')):=fun W0 W gt T hW0 hW hT=>by
  refine ybgi (h.below hW0) hW hT (fun _ hi=>hi) hm.hrows rfl hm.hny p0 hm.hp0 hm.hp1 hm.hp2 true true rfl rfl rfl (fun k h1 h2=>?_) { X with P:=y.P,s:=(D'.length:Int) } (qme N) ?_ ?_ hm.hr0 hm.hr1 hm.hl0 hm.hl1 (fun p hp=>?_) hm.hr (by show qda s.rows=0;rw[hm.hrows];rfl) (Nat.le_trans hB hW0.size) (by have:=h.k0;omega) hm.hlen
  ·constructor
   ·show getZ [((1:Int),Value.bool true),(2,.bool true)] _=none
    unfold getZ;rw[if_neg (by omega)];unfold getZ;rw[if_neg (by omega)];rfl
   ·show getZ [((1:Int),Value.bool true),(2,.bool true)] _=none
    unfold getZ;rw[if_neg (by omega)];unfold getZ;rw[if_neg (by omega)];rfl
  ·show ((s.nodes.set 0 _).set 1 _)[0]? = _
   rw[List.getElem?_set_ne (by omega),List.getElem?_set_self (by omega)]
  ·show ((s.nodes.set 0 _).set 1 _)[1]? = _
   rw[List.getElem?_set_self (by rw[List.length_set];omega)]
  ·have h1:=hgin p hp
   have h2:=h.k1
   omega
 clear h hm hfi hlen32 hLV hGl hN1 hgin
 go_enter Tryz.func24,Tryz.ntmps24
 go_wp2_with fail
 refine HFI.out.mono ?_
 rintro e w1 ⟨rfl,hb1⟩
 have HB1:=Lib.hid hb1
 clear hb1
 obtain⟨gn,on,cn,yq,yn,yc,c195,hgn,e0,e1,e2,e3,e4,e5,e6,e7⟩:=HND.out w1 HB1.out
 have HB2:Hid (Below w.heap.size w (w1.alloc (.cells #[.int .i64 1,.int .i64 N.m,.int .i64 N.u,.int .i64 N.g,.int .i64 N.s,.int .i64 N.l,.int .i64 N.up,.slice yq yn yc] 103))):=HB1.out.alloc HB1.out.size _
 obtain⟨m0,m1,m2,m3,m4,m5,m6,m7⟩:=qag (heap_alloc_new w1 (.cells #[.int .i64 1,.int .i64 N.m,.int .i64 N.u,.int .i64 N.g,.int .i64 N.s,.int .i64 N.l,.int .i64 N.up,.slice yq yn yc] 103))
 have HBG:=Lib.hid (qmn (H.out.below HB2.out))
 go_wp2_with fail
 refine HBG.out.mono ?_
 rintro e w4 ⟨gt,T,rfl,hb4,hT⟩
 generalize w1.alloc (.cells #[.int .i64 1,.int .i64 N.m,.int .i64 N.u,.int .i64 N.g,.int .i64 N.s,.int .i64 N.l,.int .i64 N.up,.slice yq yn yc] 103)=w3 at *
 have HB4:=Lib.hid hb4
 have HT:=Lib.hid hT
 have HLV4:=Lib.hid (HLV.out w3 w4 gt T HB2.out hb4 hT)
 clear hb4 hT c195 hgn e0 e1 e2 e3 e4 e5 e6 e7 m0 m1 m2 m3 m4 m5 m6 m7
 go_wp2_with fail
 refine HLV4.out.mono ?_
 rintro e w5 ⟨rfl,d5⟩
 have HO5:=Lib.hid (d5.old HB4.out HT.out)
 obtain⟨T5,t5,u5,v5,k5⟩:=d5
 have HD5:=Lib.hid (HDR.out w3 w5 gt T5 HB2.out HO5.out t5)
 have HT5:=Lib.hid t5
 clear t5 u5 v5 k5
 go_wp2_with fail
 refine HD5.out.mono ?_
 rintro e w6 ⟨rfl,d6⟩
 have HO6:=Lib.hid (d6.old HO5.out HT5.out)
 obtain⟨T6,t6,u6,v6,k6⟩:=d6
 have HE6:=Lib.hid (HEND.out w3 w6 gt T6 HB2.out HO6.out t6)
 clear t6 u6 v6 k6
 go_wp2_with fail
 refine HE6.out.mono ?_
 rintro e w7 ⟨rfl,h7,k7⟩
 have H7:=Lib.hid h7
 have HK7:Hid (qab F w w7):=(qab.of_below HB2.out).step k7
 clear h7 k7
 go_wp2
 go_ret
 exact⟨rfl,H7.out,HK7.out⟩
theorem ybla (N:Nat->List Int) (P:List Int) (s:Int):(qbc N P s).length<=s.toNat:=by unfold qbc;rw[List.length_take];omega
theorem qox {w:World} {g:Nat} {a0 a1 a2 a3 a4 a5:Value} {t:TypeId} {fr:Nat × Nat} (h:w.heap[g]? = some (.cells #[a0,a1,a2,a3,a4,a5] t fr)):
  w.cell? ⟨g,0,none⟩=some a0/\w.cell? ⟨g,1,none⟩=some a1/\w.cell? ⟨g,2,none⟩=some a2/\w.cell? ⟨g,3,none⟩=some a3/\w.cell? ⟨g,4,none⟩=some a4/\w.cell? ⟨g,5,none⟩=some a5:=
 have c:=fun i=>cell_of_row _ _ i _ _ _ h
 ⟨c 0,c 1,c 2,c 3,c 4,c 5⟩
def statV (X:Pn):Value:=if X.k=0 then .tuple #[.agg #[.int .i64 0,.int .i64 0,.int .i64 0,.int .i64 0,.int .i64 0,.int .i64 0],.int .i64 4] else .tuple #[.agg #[.int .i64 X.k,.int .i64 X.m,.int .i64 X.u,.int .i64 X.g,.int .i64 X.s,.int .i64 X.l],.int .i64 0]
theorem ybme {w:World} {gf:Nat} {s:Fs} {F:Nat->Prop} {B:Nat} {a:Addr} (h:FsAt w gf s F B a) (i:Nat) (hi:i<32) (X:Pn) (hX:s.nodes[i]? = some X):
  Calls Tryz.prog 23 #[.pointer (some ⟨gf,0,none⟩),.int .i64 ((i:Int)+1)] w (fun e w'=>e=.returned (statV X)/\Below w.heap.size w w'):=by
 have HTH:=Lib.hid (fun W (hW:Below w.heap.size w W)=>qmo (h.below hW) i hi X hX)
 obtain⟨gn,on,cn,yq,yn,yc,c195,hgn,e0,e1,e2,e3,e4,e5,e6,e7,hI⟩:=qdz h i hi X hX
 have hgf:gf<w.heap.size:=block_lt_of_cell c195
 have hg1:¬ gf=w.heap.size:=by omega
 have hg2:¬ gn=w.heap.size:=by omega
 have i1:IntKind.i64.wrap ((i:Int)+1 - 1)=(i:Int):=by rw[IntWalk.i64_in _ (by omega)];omega
 obtain⟨y,Hy⟩:∃ y,Hid (X.k=y):=⟨_,rfl⟩
 unfold statV
 rw[Hy.out]at e0 HTH ⊢
 clear h hX hI
 by_cases hy:y=0
 ·subst hy
  rw[if_pos rfl]
  rw[show decide ((0:Int) ≠ 0)=false from rfl]at HTH
  go_enter Tryz.func23,Tryz.ntmps23
  go_wp2_with fail
  refine (HTH.out _ ((Below.refl _ _).alloc (Nat.le_refl _) _)).mono ?_
  rintro e w1 ⟨rfl,rfl⟩
  go_wp2
  have hz:=heap_alloc_new w (.cells #[.int .i64 0,.int .i64 0,.int .i64 0,.int .i64 0,.int .i64 0,.int .i64 0] 52)
  obtain⟨z0,z1,z2,z3,z4,z5⟩:=qox hz
  exact bodyPost_ret (v:=.tuple #[.agg #[.int .i64 0,.int .i64 0,.int .i64 0,.int .i64 0,.int .i64 0,.int .i64 0],.int .i64 4]) (by simp[results,Tryz.results23,go_sem,z0,z1,z2,z3,z4,z5]) rfl ⟨rfl,(Below.refl _ _).alloc (Nat.le_refl _) _⟩
 ·rw[if_neg hy]
  rw[show decide (y ≠ 0)=true from decide_eq_true hy]at HTH
  go_enter Tryz.func23,Tryz.ntmps23
  go_wp2_with fail
  refine (HTH.out _ ((Below.refl _ _).alloc (Nat.le_refl _) _)).mono ?_
  rintro e w1 ⟨rfl,rfl⟩
  have HZ:Hid ((w.alloc (.cells #[.int .i64 0,.int .i64 0,.int .i64 0,.int .i64 0,.int .i64 0,.int .i64 0] 52)).heap[w.heap.size]? = some (.cells #[.int .i64 0,.int .i64 0,.int .i64 0,.int .i64 0,.int .i64 0,.int .i64 0] 52 (0,0))):=heap_alloc_new _ _
  have HBA:Hid (Below w.heap.size w (w.alloc (.cells #[.int .i64 0,.int .i64 0,.int .i64 0,.int .i64 0,.int .i64 0,.int .i64 0] 52))):=(Below.refl _ _).alloc (Nat.le_refl _) _
  go_wp2_with fail
  refine (ybuu y X.m X.u X.g X.s X.l X.up _ _).mono ?_
  rintro e w2 ⟨rfl,hb2⟩
  have HZ2:=Lib.hid (qaa hb2 HZ.out)
  have HB2:Hid (Below w.heap.size w w2):=Below.step HBA.out hb2
  obtain⟨z0,z1,z2,z3,z4,z5⟩:=qox HZ2.out
  have f0:w2.frozen? ⟨w.heap.size,0,none⟩=false:=frozen_of_row _ _ _ _ _ HZ2.out
  have f1:w2.frozen? ⟨w.heap.size,1,none⟩=false:=frozen_of_row _ _ _ _ _ HZ2.out
  have f2:w2.frozen? ⟨w.heap.size,2,none⟩=false:=frozen_of_row _ _ _ _ _ HZ2.out
  have f3:w2.frozen? ⟨w.heap.size,3,none⟩=false:=frozen_of_row _ _ _ _ _ HZ2.out
  have f4:w2.frozen? ⟨w.heap.size,4,none⟩=false:=frozen_of_row _ _ _ _ _ HZ2.out
  have f5:w2.frozen? ⟨w.heap.size,5,none⟩=false:=frozen_of_row _ _ _ _ _ HZ2.out
  clear hb2
  go_wp2
  have hb3:Below w.heap.size w ((((((w2.setCell ⟨w.heap.size,0,none⟩ (.int .i64 y)).setCell ⟨w.heap.size,1,none⟩ (.int .i64 X.m)).setCell ⟨w.heap.size,2,none⟩ (.int .i64 X.u)).setCell ⟨w.heap.size,3,none⟩ (.int .i64 X.g)).setCell ⟨w.heap.size,4,none⟩ (.int .i64 X.s)).setCell ⟨w.heap.size,5,none⟩ (.int .i64 X.l)):=(((((HB2.out.setCell (p:=⟨w.heap.size,0,none⟩) (Nat.le_refl _) _).setCell (p:=⟨w.heap.size,1,none⟩) (Nat.le_refl _) _).setCell (p:=⟨w.heap.size,2,none⟩) (Nat.le_refl _) _).setCell (p:=⟨w.heap.size,3,none⟩) (Nat.le_refl _) _).setCell (p:=⟨w.heap.size,4,none⟩) (Nat.le_refl _) _).setCell (p:=⟨w.heap.size,5,none⟩) (Nat.le_refl _) _
  have hr3:((((((w2.setCell ⟨w.heap.size,0,none⟩ (.int .i64 y)).setCell ⟨w.heap.size,1,none⟩ (.int .i64 X.m)).setCell ⟨w.heap.size,2,none⟩ (.int .i64 X.u)).setCell ⟨w.heap.size,3,none⟩ (.int .i64 X.g)).setCell ⟨w.heap.size,4,none⟩ (.int .i64 X.s)).setCell ⟨w.heap.size,5,none⟩ (.int .i64 X.l)).heap[w.heap.size]? = some (.cells #[.int .i64 y,.int .i64 X.m,.int .i64 X.u,.int .i64 X.g,.int .i64 X.s,.int .i64 X.l] 52 (0,0)):=
   heap_setCell_same _ _ 5 _ _ _ (heap_setCell_same _ _ 4 _ _ _ (heap_setCell_same _ _ 3 _ _ _ (heap_setCell_same _ _ 2 _ _ _ (heap_setCell_same _ _ 1 _ _ _ (heap_setCell_same _ _ 0 _ _ _ HZ2.out)))))
  generalize (((((w2.setCell ⟨w.heap.size,0,none⟩ (.int .i64 y)).setCell ⟨w.heap.size,1,none⟩ (.int .i64 X.m)).setCell ⟨w.heap.size,2,none⟩ (.int .i64 X.u)).setCell ⟨w.heap.size,3,none⟩ (.int .i64 X.g)).setCell ⟨w.heap.size,4,none⟩ (.int .i64 X.s)).setCell ⟨w.heap.size,5,none⟩ (.int .i64 X.l)=w3 at *
  obtain⟨q0,q1,q2,q3,q4,q5⟩:=qox hr3
  exact bodyPost_ret (v:=.tuple #[.agg #[.int .i64 y,.int .i64 X.m,.int .i64 X.u,.int .i64 X.g,.int .i64 X.s,.int .i64 X.l],.int .i64 0]) (by simp[results,Tryz.results23,go_sem,q0,q1,q2,q3,q4,q5]) rfl ⟨rfl,hb3⟩
theorem ybol (v:Value) (D:List Int) (w:World) (h:qbk w v D) (hl:D.length<=1000) (p n:Nat) (hn:n<=512) (hn0:0<n) (hp:p<=1000000):
  Calls Tryz.prog 56 #[v,.int .i64 (p:Int),.int .i64 (n:Int)] w (fun e w'=>∃ v',e=.returned v'/\qaf w' v' (qgc D p n)/\(∀ b,v'.ownBlock=some b->w.heap.size<=b)/\Below w.heap.size w w'):=by
 obtain⟨N,HN⟩:∃ N,Hid (D.length=N):=⟨_,rfl⟩
 obtain⟨q,cp,rfl⟩:=qcq h.1 N HN.out
 have hcp:N<=cp:=h.2 q N cp rfl
 have HH:=Lib.hid h
 rw[HN.out]at hl
 clear h
 by_cases hpn:N<=p
 ·have d1:decide ((N:Int)<=(p:Int))=true:=decide_eq_true (by omega)
  have d2:(N:Int)<=(p:Int):=by omega
  have HE:Hid (qgc D p n=[]):=by show _=_;unfold qgc;rw[List.drop_eq_nil_of_le (by rw[HN.out];exact hpn)];simp
  go_enter Tryz.func56,Tryz.ntmps56
  go_wp2
  go_ret
  rw[HE.out]
  exact⟨_,rfl,⟨rfl,Or.inl ⟨rfl,_,_,rfl⟩⟩,fun b hb=>(by cases hb),Below.refl _ _⟩
 ·have d1:decide ((N:Int)<=(p:Int))=false:=decide_eq_false (by omega)
  have d2:¬ (N:Int)<=(p:Int):=by omega
  have i1:IntKind.i64.wrap ((p:Int)+(n:Int))=(p:Int)+(n:Int):=IntWalk.i64_in _ (by omega)
  obtain⟨m,hm1,hm2⟩:∃ m:Nat,min N (p+n)=m/\(m<=N/\m<=p+n/\(m=N\/m=p+n)):=⟨_,rfl,by omega⟩
  have hml:m - p=min n (N - p):=by omega
  rw[<-hm1]at hml hm2
  have hml0:0<min n (N - p):=by omega
  have hpm:p<=m:=by omega
  have hmc:m<=cp:=by omega
  obtain⟨_,⟨h0,_⟩ | ⟨g,o,cap,hv,hc⟩⟩:=id HH.out.1
  ·have:=HN.out;omega
  injection hv with e1 e2 e3
  subst e1 e3
  clear e2
  have HCL:=Lib.hid (qgr (.slice (some ⟨g,o+p,none⟩) (min N (p+n) - p) (cp - p)) (qgc D p n) w ⟨by rw[qal,Nat.mul_one],Or.inr ⟨g,o+p,cp - p,by unfold qgc;rw[List.length_take,List.length_drop,HN.out];rw[hml],fun j x hx=>by
   unfold qgc at hx
   rw[qdf,List.getElem?_take]at hx
   split at hx
   ·rw[qdq,List.getElem?_drop]at hx
    have:=hc (p+j) x hx
    rwa [<-Nat.add_assoc]at this
   ·cases hx⟩⟩ (by unfold qgc;rw[List.length_take,List.length_drop,HN.out];omega) (by unfold qgc;rw[List.length_take,List.length_drop,HN.out];omega))
  rw[show min N (p+n)=(min (N:Int) ((p:Int)+(n:Int))).toNat by omega]at HCL
  clear hm2 hml hml0 hc
  go_enter Tryz.func56,Tryz.ntmps56
  go_wp2_with fail
  refine HCL.out.mono ?_
  rintro e w1 ⟨v1,rfl,hv1⟩
  have HB:=Lib.hid hv1.below
  have HA:=Lib.hid hv1.at
  have HO:Hid (∀ b,v1.ownBlock=some b->w.heap.size<=b):=by
   obtain⟨g1,c1,_,hv,hg,_⟩:=hv1
   intro b hb
   rw[hv]at hb
   have hb2:g1=b:=by simpa[Value.ownBlock]using hb
   have:=hg.1
   omega
  clear hv1
  go_wp2
  go_ret
  exact⟨_,rfl,HA.out,HO.out,HB.out⟩
theorem qlj {w:World} {gf:Nat} {s:Fs} {F:Nat->Prop} {B:Nat} {a:Addr} (h:FsAt w gf s F B a) (hby:qnz s) (i:Nat) (hi:i<32) (X:Pn) (hX:s.nodes[i]? = some X) (hk:X.k=1) (hP:qgd X.P s.k) (hPl:X.P.length<=8) (hs:0<=X.s/\X.s<=512)
  (p n:Nat) (hn:n<=512) (hn0:0<n) (hp:p<=1000000):
  Calls Tryz.prog 18 #[.pointer (some ⟨gf,0,none⟩),.int .i64 ((i:Int)+1),.int .i64 (p:Int),.int .i64 (n:Int)] w
   (fun e w'=>∃ v,e=.returned (.tuple #[v,.int .i64 0])/\qaf w' v (qgc (qbc (secE s) X.P X.s) p n)/\(∀ b,v.ownBlock=some b->w.heap.size<=b)/\Below w.heap.size w w'):=by
 have HFI:=Lib.hid (ybcc h i hi X hX)
 rw[hk,if_neg (by omega),if_pos rfl]at HFI
 obtain⟨gn,on,cn,yq,yn,yc,c195,hgn,e0,e1,e2,e3,e4,e5,e6,e7,hI⟩:=qdz h i hi X hX
 have i1:IntKind.i64.wrap ((i:Int)+1 - 1)=(i:Int):=by rw[IntWalk.i64_in _ (by omega)];omega
 have hbb:=qxr (ybwd h hby) X.k X.m X.u X.g X.s X.l X.up (.slice yq yn yc) X.P hI.now hPl hP hs.1 hs.2
 have HBY:Hid (Calls Tryz.prog 57 #[.iface 90 (.agg #[.pointer (some ⟨gf,0,none⟩)]),.agg #[.int .i64 X.k,.int .i64 X.m,.int .i64 X.u,.int .i64 X.g,.int .i64 X.s,.int .i64 X.l,.int .i64 X.up,.slice yq yn yc]] w
   (fun e w'=>∃ v',e=.returned v'/\w'.ownsRow (w.heap.size+1) 5 1 v' (qbc (secE s) X.P X.s).length (u8s (qbc (secE s) X.P X.s))/\Below w.heap.size w w')):=hbb
 have hle:=ybla (secE s) X.P X.s
 obtain⟨D,HD⟩:∃ D,Hid (qbc (secE s) X.P X.s=D):=⟨_,rfl⟩
 rw[HD.out]at HBY hle ⊢
 rw[hk]at HBY e0
 have HDL:Hid (D.length<=1000):=Lib.hid (by omega)
 have p1:decide ((p:Int)<0)=false:=decide_eq_false (by omega)
 have p2:decide ((n:Int)<0)=false:=decide_eq_false (by omega)
 have p3:decide ((512:Int)<(n:Int))=false:=decide_eq_false (by omega)
 have p4:¬ ((p:Int)<0):=by omega
 have p5:¬ ((n:Int)<0):=by omega
 have p6:¬ ((512:Int)<(n:Int)):=by omega
 have p7:¬ (512<n):=by omega
 clear h hby hX hP hs hle hI hbb hk
 go_enter Tryz.func18,Tryz.ntmps18
 go_wp2_with fail
 refine HFI.out.mono ?_
 rintro e w1 ⟨rfl,rfl⟩
 go_wp2_with fail
 refine HBY.out.mono ?_
 rintro e w1 ⟨v1,rfl,ho,hb1⟩
 have HB1:=Lib.hid hb1
 have HPC:=Lib.hid (ybol v1 D w1 ⟨qai.of_owns ho,qjx ho⟩ HDL.out p n hn hn0 hp)
 clear ho hb1
 go_wp2_with fail
 refine HPC.out.mono ?_
 rintro e w2 ⟨v2,rfl,hv2,ho2,hb2⟩
 have HV2:=Lib.hid hv2
 have HO2:Hid (∀ b,v2.ownBlock=some b->w.heap.size<=b):=fun b hb=>Nat.le_trans HB1.out.size (ho2 b hb)
 have HB2:Hid (Below w.heap.size w w2):=Below.step HB1.out hb2
 clear hv2 hb2 ho2
 go_wp2
 go_ret2
 exact⟨v2,rfl,HV2.out,HO2.out,HB2.out⟩
def hN (sz:Nat):Pn:={ newN 420 7 0 with P:=List.replicate (blkN (sz:Int)) 0,s:=(sz:Int) }
theorem qlg {w w':World} {F:Nat->Prop} {v:Value} {D:List Int} (h:qaf w v D) (ho:∀ b,v.ownBlock=some b->¬ F b) (hk:qab F w w'):qaf w' v D:=by
 obtain⟨h1,h2⟩:=h
 refine⟨h1,h2.imp id ?_⟩
 rintro ⟨g,off,cap,rfl,hc⟩
 refine⟨g,off,cap,rfl,fun j x hx=>?_⟩
 have hlt:=block_lt_of_cell (hc j x hx)
 have hb:=hk.block g hlt (ho g rfl)
 rw[<-hc j x hx]
 unfold World.cell?
 simp only
 rw[hb]
theorem ybkz : Tryz.prog.underlying 5=some (.int .u8):=by kernel_rfl
theorem qwz : Tryz.prog.underlying 9=some .string:=by kernel_rfl
theorem ycaa : Tryz.prog.underlying 38=some (.slice 5):=by kernel_rfl
theorem qmc (l:List Int) (h:0<l.length) {w:World} {v:Value} (hv:qaf w v l):(convert 38 9 v).run Tryz.prog w=.ok (.string (qch l)) w:=by
 obtain⟨hl,⟨hn,_⟩ | ⟨g,o,c,rfl,hc⟩⟩:=hv
 ·omega
 ·exact qez w _ _ _ g o c l.length l rfl ycaa ybkz qwz hc
theorem qkj (n:Nat) (hn:n<80):secE fs4 n=gS n:=qnp qia n hn
theorem fDt_at (w:World):qaf (w.alloc (.cells #[.int .u8 120,.int .u8 121,.int .u8 122] 5 (3,4))) (.slice (some ⟨w.heap.size,0,none⟩) 3 3) fDt:=
 qav (by decide) (heap_alloc_new _ _) rfl
theorem ybsj : 0<fs2.todo.length:=by
 have:=congrArg List.length ybev
 rw[List.length_map]at this
 rw[this];decide
theorem fs2_in : ∀ y ∈ fs2.todo,0<=y.1/\y.1<256:=fun y hy=>by
 have:y.1 ∈ fs2.todo.map (fun x=>x.1):=List.mem_map.2 ⟨y,hy,rfl⟩
 rw[ybev]at this
 simp at this
 omega
theorem ybra {w:World} {v:Value} {D:List Int} (h:qaf w v D) (h0:0<D.length) (b:Nat) (hb:v.ownBlock=some b):b<w.heap.size:=by
 obtain⟨_,⟨hn,_⟩ | ⟨g,o,c,rfl,hc⟩⟩:=h
 ·omega
 ·have e:g=b:=by simpa[Value.ownBlock]using hb
  rw[<-e]
  exact block_lt_of_cell (hc 0 _ (qcj D 0 h0))
theorem ybrv (j:Nat) (hj:j<16):0<=fs2.fo.nd 0 j/\fs2.fo.nd 0 j<((80:Nat):Int):=by
 have:=qhz.load.nds 0 j (by omega) hj qhz.load.root
 omega
theorem qjh : qfk (sec fdk'.N) (fs2.fo.nd 0) 32=fs2.nodes:=(qsz ybrv (qnp qia)).trans quf
theorem qli : qlt (sec fdk'.N) fs2.fo 80:=qhz.congr (by omega) (qnp qia)
theorem ybhh : ∀ X ∈ fs2.nodes,X.k=0\/X.l ≠ 0:=by
 have h:(fs2.nodes.all fun X=>decide (X.k=0) || !decide (X.l=0))=true:=by kernel_rfl
 intro X hX
 have:=List.all_eq_true.1 h X hX
 simpa using this
theorem ybvz (P:List Int) (p:Int) (h:P=[p]) (h1:37<=p) (h2:p<((80:Nat):Int)):∀ q ∈ P,q=0\/(37<=q/\q<((80:Nat):Int)):=fun q hq=>by
 rw[h]at hq
 rw[List.mem_singleton.1 hq]
 exact Or.inr ⟨h1,h2⟩
theorem ybbx : qbc (secE fs4) fX0.P fX0.s=fD1:=(qjp (ybvz fX0.P 53 rfl (by omega) (by omega)) qkj _).trans ybhk
theorem qyb : qgc (qbc (secE fs4) fX1.P fX1.s) 0 9=[0,0,0,120,121,122]:=by
 rw[qjp (ybvz fX1.P 54 rfl (by omega) (by omega)) qkj]
 exact ybbv
theorem ybli (w:World):Calls Tryz.prog 7 #[] w (fun e w'=>e=.returned (.bool true)/\Below w.heap.size w w'):=by
 have HFR:=Lib.hid (qyj 80 (by omega) (by omega) w)
 go_enter Tryz.func7,Tryz.ntmps7
 go_wp2_with fail
 refine HFR.out.mono ?_
 rintro e w1 ⟨gf,a,F,rfl,h1,hb1,hF⟩
 have HB1:=Lib.hid hb1
 have HF:=Lib.hid hF
 have HOLD:=Lib.hid h1.old
 have HMK:Hid (Calls Tryz.prog 15 #[.pointer (some ⟨gf,0,none⟩),.int .i64 1,.string ⟨#[97]⟩,.int .i64 1,.int .i64 420,.int .i64 0,.int .i64 0] w1
   (fun e w'=>e=.returned (.tuple #[.int .i64 2,.int .i64 0])/\FsAt w' gf fs1 F w1.heap.size a/\qab F w1 w')):=Lib.hid (ybmd h1 (Nat.le_refl _) ybhi (by omega) (by omega) (by omega))
 clear h1 hb1 hF
 go_wp2_with fail
 refine HMK.out.mono ?_
 rintro e w2 ⟨rfl,h2,k2⟩
 have HK2:=Lib.hid k2
 have HWT:Hid (∀ (W:World) (v:Value),Below w2.heap.size w2 W->qbk W v fDt->Calls Tryz.prog 16 #[.pointer (some ⟨gf,0,none⟩),.int .i64 2,.int .i64 3,v] W
   (fun e w'=>e=.returned (.tuple #[.int .i64 3,.int .i64 0])/\FsAt w' gf fs2 F w1.heap.size a/\qab F W w')):=fun W v hW hv=>
  ybew (h2.below hW) (Nat.le_trans k2.size hW.size) { fX1 with P:=[],s:=0 } fs1_n1 rfl (fun p hp=>by cases hp) (by decide) 0 rfl (by omega) 3 v fDt hv (by decide) (by decide) qri fy2 ybby rfl 37 (by kernel_rfl) (by omega) (by omega) yblk fX0 fs1_n0 fX1 rfl ybrt.1 ybrt.2.1 ybrt.2.2.1 ybrt.2.2.2 ybbw (by rw[ybxu];decide)
 clear h2 k2
 have kc:=Lib.run_convert_bytes_const (P:=Tryz.prog) w2 38 5 #[.int .u8 120,.int .u8 121,.int .u8 122] 3 3 Tryz.underlying38 Tryz.underlying5
 go_wp2_with fail
 refine (HWT.out _ _ ((Below.refl _ _).alloc (Nat.le_refl _) _) ?_).mono ?_
 ·exact⟨fDt_at w2,fun q n c h=>by injection h with h1 h2 h3;omega⟩
 rintro e w3 ⟨rfl,h3,k3⟩
 have HK3:Hid (qab F w1 w3):=(HK2.out.trans (qab.of_below ((Below.refl _ _).alloc (Nat.le_refl _) _)) (fun _ h=>Or.inl h)).trans k3 (fun _ h=>Or.inl h)
 have HRD:Hid (Calls Tryz.prog 18 #[.pointer (some ⟨gf,0,none⟩),.int .i64 2,.int .i64 2,.int .i64 9] w3
   (fun e w'=>∃ v,e=.returned (.tuple #[v,.int .i64 0])/\qaf w' v (qgc (qbc (secE fs2) fX1.P fX1.s) 2 9)/\(∀ b,v.ownBlock=some b->w3.heap.size<=b)/\Below w3.heap.size w3 w')):=
  qlj h3 ybbs 1 (by omega) fX1 ybwc rfl (fun p hp=>by rw[List.mem_singleton.1 hp];exact⟨by decide,by decide⟩) (by decide) (by decide) 2 9 (by omega) (by omega) (by omega)
 have H3:=Lib.hid h3
 clear h3 k3
 go_wp2_with fail
 refine HRD.out.mono ?_
 rintro e w4 ⟨v4,rfl,hv4,ho4,hb4⟩
 rw[ybbu]at hv4
 have HV4:=Lib.hid hv4
 have HO4:=Lib.hid ho4
 have HSY:Hid (Calls Tryz.prog 25 #[.pointer (some ⟨gf,0,none⟩)] w4
   (fun e w'=>e=.returned (.int .i64 0)/\FsAt w' gf fs3 (fun i=>F i\/(w4.heap.size<=i/\i<w'.heap.size)) w'.heap.size a/\qab F w4 w')):=
  ybxy (H3.out.below hb4) (Nat.le_trans HK3.out.size hb4.size) rfl ybhg ybsj fs2_in (by rw[ybhj.2.2.2.2];omega) (by rw[ybxr];omega)
 have HK4:Hid (qab F w1 w4):=HK3.out.trans (qab.of_below hb4) (fun _ h=>Or.inl h)
 have HLB4:Hid (∀ b,v4.ownBlock=some b->w3.heap.size<=b/\b<w4.heap.size):=fun b hb=>⟨ho4 b hb,ybra hv4 (by decide) b hb⟩
 clear hv4 ho4 hb4
 go_wp2_with fail
 refine HSY.out.mono ?_
 rintro e w5 ⟨rfl,h5,k5⟩
 obtain⟨⟨gl,rv,nv,bt,bh,E,tl,FD,g1,g2,g3,g4,g5,g6,g7,g8,g9,g10,g11,g12,g13,g14,g15,g16,g17⟩,a1,a2,a3,a4,a5,a6,a7⟩:=h5
 have HFD:=Lib.hid g3
 have g2':qaw w5 (.pointer (some a)) fs3.dk 80 FD:=g2
 have HCR:=Lib.hid (ybrh g2' (.slice none 0 0) [] (fun w' _=>⟨rfl,Or.inl ⟨rfl,none,0,rfl⟩⟩) (by simp))
 have HK5:=Lib.hid k5
 clear g2' g1 g2 g3 g4 g5 g6 g7 g8 g9 g10 g11 g12 g13 g14 g15 g16 g17 a1 a2 a3 a4 a5 a6 a7 k5
 go_wp2_with fail
 refine HCR.out.mono ?_
 rintro e w6 ⟨rfl,F6,d6,f6,k6⟩
 have HMT:Hid (Calls Tryz.prog 27 #[.pointer (some a)] w6
   (fun e w'=>∃ gf F',e=.returned (.tuple #[.pointer (some ⟨gf,0,none⟩),.int .i64 0])/\FsAt w' gf fs4 F' w'.heap.size a/\qab F6 w6 w'/\(∀ i,F' i->F6 i\/w6.heap.size<=i))):=by
  have hd:=ybhf
  simp only[Bool.and_eq_true,decide_eq_true_eq]at hd
  obtain⟨⟨⟨⟨e1,e2⟩,e3⟩,e4⟩,e5⟩:=hd
  have hm:=ybfk d6 (by omega) (by omega) fdk' (seqO fdk.N) (fun W hW=>ybyy (d6.below hW) (qhi e2) (ybsg e3) (by show fdk.W.length<_;rw[e5];omega)) e1
   (fun n hn=>by rw[qnp qia n hn];exact ybmi n hn) fs2.fo qli.load (by have:=qli.tree 0 (by omega) qhz.load.root;obtain⟨_,h⟩:=this;exact h.tree) qli.quota
   (by rw[qnp qia 4 (by omega)];kernel_rfl) (by rw[qjh];exact ybhh)
  rw[qjh]at hm
  exact hm
 have HK6:=Lib.hid k6
 have HF6:=Lib.hid f6
 clear d6 f6 k6
 go_wp2_with fail
 refine HMT.out.mono ?_
 rintro e w7 ⟨gf7,F7,rfl,h7,k7,f7⟩
 have HK7:=Lib.hid k7
 have HF7:=Lib.hid f7
 have hby7:qnz fs4:=fun n hn=>by rw[qkj n hn];exact ybmi n hn
 have hlk:=ybmc h7 0 (by omega) fX0 fs2_n0 rfl (fun p hp=>by rw[List.mem_singleton.1 hp];exact⟨by decide,by decide⟩) (by decide) (by decide) nmA (by kernel_rfl) fD1 ybbx ybeo.1 ybeo.2.1
 rw[ybeo.2.2.1,ybeo.2.2.2]at hlk
 have HLK:Hid (Calls Tryz.prog 22 #[.pointer (some ⟨gf7,0,none⟩),.int .i64 1,.string ⟨#[97]⟩] w7 (fun e w'=>e=.returned (.tuple #[.int .i64 2,.int .i64 0])/\Below w7.heap.size w7 w')):=hlk
 have HRD2:Hid (∀ W,Below w7.heap.size w7 W->Calls Tryz.prog 18 #[.pointer (some ⟨gf7,0,none⟩),.int .i64 2,.int .i64 0,.int .i64 9] W
   (fun e w'=>∃ v,e=.returned (.tuple #[v,.int .i64 0])/\qaf w' v (qgc (qbc (secE fs4) fX1.P fX1.s) 0 9)/\(∀ b,v.ownBlock=some b->W.heap.size<=b)/\Below W.heap.size W w')):=fun W hW=>
  qlj (h7.below hW) hby7 1 (by omega) fX1 ybwc rfl (fun p hp=>by rw[List.mem_singleton.1 hp];exact⟨by decide,by decide⟩) (by decide) (by decide) 0 9 (by omega) (by omega) (by omega)
 have HCH:=Lib.hid (fun W (hW:Below w7.heap.size w7 W)=>ybsl (h7.below hW) hby7 (qhz.congr (by omega) qkj))
 clear h7 k7 f7 hby7 hlk
 go_wp2_with fail
 refine HLK.out.mono ?_
 rintro e w8 ⟨rfl,hb8⟩
 have HB8:=Lib.hid hb8
 clear hb8
 go_wp2_with fail
 refine (HRD2.out w8 HB8.out).mono ?_
 rintro e w9 ⟨v9,rfl,hv9,ho9,hb9⟩
 rw[qyb]at hv9
 have HB9:Hid (Below w7.heap.size w7 w9):=Below.step HB8.out hb9
 have HS9:Hid (∀ W:World,Below w9.heap.size w9 W->(convert 38 9 v9).run Tryz.prog W=.ok (.string ⟨#[0,0,0,120,121,122]⟩) W):=fun W hW=>qmc [0,0,0,120,121,122] (by decide) (hv9.below hW)
 have HS4:Hid (∀ W:World,Below w7.heap.size w7 W->(convert 38 9 v4).run Tryz.prog W=.ok (.string ⟨#[0,120,121,122]⟩) W):=fun W hW=>by
  have z3:=HK3.out.size
  have z5:=HK5.out.size
  have e5:qaf w5 v4 [0,120,121,122]:=qlg HV4.out (fun b hb hc=>by have:=HLB4.out b hb;have:=HOLD.out b hc;omega) HK5.out
  have nD:∀ b,v4.ownBlock=some b->¬ FD b:=fun b hb hc=>by
   have:=HLB4.out b hb
   rcases HFD.out b hc with h | h
   ·have:=HOLD.out b h;omega
   ·omega
  have e6:qaf w6 v4 [0,120,121,122]:=qlg e5 nD HK6.out
  have e7:qaf w7 v4 [0,120,121,122]:=qlg e6 (fun b hb hc=>by
   have:=HLB4.out b hb
   rcases HF6.out b hc with h | h
   ·exact nD b hb h
   ·omega) HK7.out
  exact qmc [0,120,121,122] (by decide) (e7.below hW)
 have h1:=HS4.out w9 HB9.out
 have h2:=HS9.out w9 (Below.refl _ _)
 have HCK:=Lib.hid (HCH.out w9 HB9.out)
 clear hv9 ho9 hb9
 go_wp2_with fail
 refine HCK.out.mono ?_
 rintro e w10 ⟨rfl,hb10⟩
 have HB10:Hid (Below w7.heap.size w7 w10):=Below.step HB9.out hb10
 clear hb10 h1 h2
 have HBB:Hid (Below w.heap.size w w10):=by
  have z1:=HB1.out.size
  have z4:=HK4.out.size
  have z5:=HK5.out.size
  have z6:=HK6.out.size
  have z7:=HK7.out.size
  have y4:=HB1.out.trans (HK4.out.to_below HF.out z1)
  have y5:=y4.trans (HK5.out.to_below HF.out (by omega))
  have nD:∀ i,FD i->w.heap.size<=i:=fun i hi=>by
   rcases HFD.out i hi with h | h
   ·exact HF.out i h
   ·omega
  have y6:=y5.trans (HK6.out.to_below nD (by omega))
  have y7:=y6.trans (HK7.out.to_below (fun i hi=>(HF6.out i hi).elim (nD i) (fun h=>by omega)) (by omega))
  exact Below.step y7 HB10.out
 go_wp2
 go_ret
 exact⟨rfl,HBB.out⟩
def nmK (i:Nat):ByteArray:=⟨#[UInt8.ofNat (97+i)]⟩
theorem ybom : ((List.range 8).all fun i=>pk (i:Int) 8 == (i:Int))=true:=by kernel_rfl
theorem ybui (i:Nat) (h:i<8):pk (i:Int) 8=(i:Int):=by simpa using List.all_eq_true.1 ybom i (List.mem_range.2 h)
theorem nmK_8 : ((List.range 8).all fun i=>(qch [97+(i:Int)]).data == (nmK i).data)=true:=by kernel_rfl
theorem ybnj (i:Nat) (hi:i<8) (w:World):Calls Tryz.prog 20 #[.int .i64 (i:Int)] w (fun e w'=>e=.returned (.string (nmK i))/\Below w.heap.size w w'):=by
 have hp:=ybfs (i:Int) 8 w (by omega) (by omega)
 rw[ybui i hi]at hp
 have HP:=Lib.hid hp
 have iw:IntKind.i64.wrap (97+(i:Int))=97+(i:Int):=IntWalk.i64_in _ (by omega)
 have iu:IntKind.u8.wrap (97+(i:Int))=97+(i:Int):=by simp[IntKind.wrap,IntKind.bits,IntKind.signed];omega
 have hb:qaf (w.alloc (.cells #[.int .u8 (97+(i:Int))] 5)) (.slice (some ⟨w.heap.size,0,none⟩) 1 1) [97+(i:Int)]:=qav rfl (heap_alloc_new _ _) rfl
 have HC:=qmc [97+(i:Int)] (by show 0<1;omega) hb
 have hs:qch [97+(i:Int)]=nmK i:=by
  have h1:(qch [97+(i:Int)]).data=(nmK i).data:=by simpa using List.all_eq_true.1 nmK_8 i (List.mem_range.2 hi)
  exact ByteArray.ext h1
 rw[hs]at HC
 have HB:Hid (Below w.heap.size w (w.alloc (.cells #[.int .u8 (97+(i:Int))] 5))):=(Below.refl _ _).alloc (Nat.le_refl _) _
 clear hp hb hs
 go_enter Tryz.func20,Tryz.ntmps20
 go_wp2_with fail
 refine HP.out.mono ?_
 rintro e w1 ⟨rfl,rfl⟩
 go_wp2
 go_ret
 exact⟨rfl,HB.out⟩
section
variable {P : Program}
end
theorem ybbg {w w':World} (h:Below w.heap.size w w') {p:Addr} {v:Value} (hc:w.cell? p=some v):w'.cell? p=some v:=(h.cell (block_lt_of_cell hc)).trans hc
theorem ybtt (i:Nat) (h1:1<=i) (hi:i<32):qkz[i]? = some zN:=by
 unfold qkz
 rw[List.getElem?_cons,if_neg (by omega),List.getElem?_replicate,if_pos (by omega)]
theorem pk_nat (a n:Int) (h0:0<n) (h1:n<9223372036854775808):∃ k:Nat,pk a n=(k:Int)/\(k:Int)<n:=by
 have:=ybuh a n h0 h1
 exact⟨(pk a n).toNat,by omega,by omega⟩
theorem yblx (k:Nat) (hk:64<=k) (n:Nat) (hn:n<k):secE (fs0 k) n=fmtS k n:=yblm k hk n hn
theorem ybcb (k:Nat) (hk:64<=k) (hk2:k<=256):qnz (fs0 k):=fun n hn=>by rw[yblx k hk n hn];exact ybeg k n hk2
theorem qxs (l:List Int) {w:World} {v:Value} (hv:qaf w v l):(convert 38 9 v).run Tryz.prog w=.ok (.string (qch l)) w:=by
 by_cases h:0<l.length
 ·exact qmc l h hv
 ·obtain rfl:l=[]:=List.length_eq_zero_iff.1 (by omega)
  obtain⟨_,⟨_,q,c,rfl⟩ | ⟨g',o',c,rfl,_⟩⟩:=hv
  ·rw[run_convert_bytes_string w 38 9 5 q 0 c ycaa ybkz qwz]
   cases q <;> rfl
  ·show (convert 38 9 (.slice (some ⟨g',o',none⟩) 0 c)).run Tryz.prog w=_
   rw[run_convert_bytes_string w 38 9 5 (some ⟨g',o',none⟩) 0 c ycaa ybkz qwz]
   rfl
end Go.Proofs.YtpoglnpjadmbpaaGreatDoor
