/- Part of the proofs of FsLinks: the texts Tx4, Tx5. -/
import Derived.Test.YtpoglnpjadmbpaaGreatDoorKA34
set_option maxHeartbeats 16000000
set_option maxRecDepth 100000
namespace Go.Proofs.YtpoglnpjadmbpaaGreatDoor
open Go.RowKit
def ybqo (x:Tx) (s:Fs) (p:Int) (p':Nat) (fo:Fo):Prop:=
 (p=0/\ybet x.fo s.k p'/\fo=useF x.fo p')\/(p=(p':Int)/\0<p'/\p'<256/\(∀ k,1<=k->k<4->qbd x.fo k=false)/\fo=x.fo)
theorem tx_own {w:World} {B:Nat} {F F1 T:Nat->Prop} {gt gf:Nat} {x:Tx} {s:Fs} {a:Addr} {B0:Nat} (h:TxAt w B F gt (.pointer (some ⟨gf,0,none⟩)) x T) (hf:FsAt w gf s F1 B0 a) (p:Int) (p':Nat) (fo:Fo) (ho:ybqo x s p p' fo):
  Calls Tryz.prog 93 #[.pointer (some ⟨gt,0,none⟩),.int .i64 p] w
   (fun e w'=>e=.returned (.int .i64 (p':Int))/\qbg B F gt (.pointer (some ⟨gf,0,none⟩)) { x with fo:=fo } T w w'):=by
 rcases ho with⟨rfl,h1,rfl⟩ | ⟨rfl,h1,h2,h3,rfl⟩
 ·exact ybzz h hf p' h1
 ·exact (ybps h p' h1 h2 h3).mono fun e w' ⟨he,hb⟩=>⟨he,qbg.same h hb⟩
theorem qbp.putMap {w w':World} {B:Nat} {F T:Nat->Prop} {gt:Nat} {fp:Value} {x:Tx} {rv:Value} {gn cn gd gp:Nat} {gv:Value} {E:List Nd} {pl:List (Int × Value)} (h:qbp w B F T gt fp x rv gn cn gd gp gv E pl) (hx:TxAt w B F gt fp x T) (p:Int) (v:Value) (D:List Int)
  (hv:qet w B v D) (hk:qab (fun i=>i=gp) w w') (hm:MapL Tryz.prog 3 w' gp (putZ pl p v)) (hl:x.put.length<1000):TxAt w' B F gt fp { x with put:=putZ x.put p D } T:=by
 have hkT:qab T w w':=hk.mono fun i _ hi=>by rw[hi];exact h.tp
 have hb:∀ b,b<w.heap.size->b ≠ gp->w'.heap[b]? = w.heap[b]? :=fun b h1 h2=>hk.block b h1 h2
 obtain⟨cu,q1,q2,q3,q4,q5,q6⟩:=h.block
 refine qbp.at (x:={ x with put:=putZ x.put p D }) (rv:=rv) (gn:=gn) (cn:=cn) (gd:=gd) (gp:=gp) (gv:=gv) (E:=E) (pl:=putZ pl p v) ⟨(hb gt (qac h.row) (qaj h.row h.puts)).trans h.row,ybak h.rows hkT (fun _ hi=>Or.inl hi),?_,ybjs h.nds hkT (fun _ hi=>Or.inl hi),?_,hm,?_,h.ne,?_,h.tn,h.td,h.tp,h.tg⟩ hx.self hx.len (fun i hi=>Nat.lt_of_lt_of_le (hx.fin i hi) hk.size) hx.new hx.gone (Nat.le_trans (qdo _ _ _) hl) hx.dirty hx.rows hx.fake
 ·exact qbi h.own fun b hb2=>hb b (h.own.lt b hb2).2 (by injection hb2 with hb2;rw[<-hb2];exact qaj q1 h.puts)
 ·exact h.dirt.of_block (hb gd h.dirt.lt h.ne)
 ·exact qas.put (qgp hv fun g cc _ hc=>hb g (qac hc) (qaj hc h.puts)) (h.secs.keep fun g cc _ hc=>hb g (qac hc) (qaj hc h.puts))
 ·refine qbi h.gone fun b hb2=>hb b (h.gone.lt b hb2).2 ?_
  obtain⟨_,⟨hv,_⟩ | ⟨g,c1,cu1,hv,_,hh1,_⟩⟩:=id h.gone
  ·rw[hv]at hb2;cases hb2
  ·rw[hv]at hb2
   injection hb2 with hb2
   rw[<-hb2]
   exact qaj hh1 h.puts
theorem qxb {w w0:World} {F F1 T:Nat->Prop} {gt gf:Nat} {x:Tx} {s:Fs} {a:Addr} {B0:Nat} (hf:FsAt w0 gf s F1 B0 a) (hb:Below w0.heap.size w0 w) (h:TxAt w w0.heap.size F gt (.pointer (some ⟨gf,0,none⟩)) x T) (gb:Nat) (X:Pn) (q:Option Addr) (n c:Nat)
  (hr:w.heap[gb]? = some (.cells #[.int .i64 X.k,.int .i64 X.m,.int .i64 X.u,.int .i64 X.g,.int .i64 X.s,.int .i64 X.l,.int .i64 X.up,.slice q n c] 103 (0,0))) (hX:qao w (.slice q n c) X.P) (hgb:F gb/\¬ T gb/\w0.heap.size<=gb)
  (k:Nat) (hk:k<X.P.length) (hPl:X.P.length<=8) (p':Nat) (hp':p'<256) (fo:Fo) (ho:ybqo x s X.P[k] p' fo) (v:Value) (D:List Int) (hv:qet w w0.heap.size v D) (hvT:∀ b,v.ownBlock=some b->¬ T b) (hpl:x.put.length<900):
  Calls Tryz.prog 52 #[.pointer (some ⟨gt,0,none⟩),.pointer (some ⟨gb,0,none⟩),.int .i64 (k:Int),v] w
   (fun e w'=>e=.returned (.tuple #[])/\∃ T' g' c',TxAt w' w0.heap.size F gt (.pointer (some ⟨gf,0,none⟩)) { x with fo:=fo,put:=putZ x.put (p':Int) D } T'/\(∀ i,T' i->T i\/w.heap.size<=i)/\(∀ i,T i->T' i) /\
    qab (fun i=>T i\/i=gb) w w'/\w'.heap[gb]? = some (.cells #[.int .i64 X.k,.int .i64 X.m,.int .i64 X.u,.int .i64 X.g,.int .i64 X.s,.int .i64 X.l,.int .i64 X.up,.slice (some ⟨g',0,none⟩) X.P.length c'] 103 (0,0)) /\
    (w.heap.size<=g'/\¬ T' g'/\X.P.length<=c')/\∃ cu,w'.heap[g']? = some (.cells cu 3 (0,0))/\cu.toList.take X.P.length=ints (X.P.set k (p':Int))):=by
 have H:=Lib.hid h
 have HF:=Lib.hid hf
 have HBB:=Lib.hid hb
 have HO:=Lib.hid ho
 have HV:=Lib.hid hv
 have HVT:=Lib.hid hvT
 have HX:=Lib.hid hX
 have HR:=Lib.hid hr
 have c7:=(qag hr).2.2.2.2.2.2.2
 have f7:w.frozen? ⟨gb,7,none⟩=false:=frozen_of_row _ _ _ _ _ hr
 have hgl:gb<w.heap.size:=qac hr
 have HCL:=Lib.hid (qgh (.slice q n c) X.P w hX (by omega))
 clear ho hv hX
 go_enter Tryz.func52,Tryz.ntmps52
 go_wp2_with fail
 refine HCL.out.mono ?_
 intro e w1 hres
 obtain⟨v1,rfl,hO1,hb1,_⟩:=hres
 obtain⟨_,⟨hv1,h0⟩ | ⟨g1,c1,cu1,rfl,hg1,hh1,hc1,hm1,hs1,ht1⟩⟩:=id hO1
 ·omega
 obtain⟨N,HN⟩:∃ N,Hid (X.P.length=N):=⟨_,rfl⟩
 have hkN:k<N:=by rw[<-HN.out];exact hk
 have hkN2:(k:Int)<(N:Int):=by omega
 rw[HN.out]at hc1 ht1 ⊢
 have HB1:=Lib.hid hb1
 have H1:=Lib.hid (h.grow hb1 g1 hg1)
 have HRW:=Lib.hid (qaa hb1 hr)
 have d7:=(hb1.cell (p:=⟨gb,7,none⟩) hgl).trans c7
 have e7:w1.frozen? ⟨gb,7,none⟩=false:=frozen_of_row _ _ _ _ _ HRW.out
 have hne1:gb ≠ g1:=by omega
 have HH1:=Lib.hid hh1
 obtain⟨w2,HW2⟩:∃ x,Hid (w1.setCell ⟨gb,7,none⟩ (.slice (some ⟨g1,0,none⟩) N c1)=x):=⟨_,rfl⟩
 have HK2:Hid (qab (fun i=>i=gb) w w2):=by show _;rw[<-HW2.out];exact (qab.of_below hb1).step (qab.setCell (F:=fun i=>i=gb) (p:=⟨gb,7,none⟩) rfl _)
 have HT2:Hid (TxAt w2 w0.heap.size (fun i=>F i\/i=g1) gt (.pointer (some ⟨gf,0,none⟩)) x T):=by show _;rw[<-HW2.out];exact H1.out.local (Or.inl hgb.1) hgb.2.1 HRW.out (by decide) (qab.setCell (F:=fun i=>i=gb) (p:=⟨gb,7,none⟩) rfl _)
 have HBW2:Hid (Below w0.heap.size w0 w2):=hb.trans (HK2.out.to_below (fun i hi=>by rw[hi];exact hgb.2.2) hb.size)
 have HF2:Hid (FsAt w2 gf s F1 B0 a):=hf.below HBW2.out
 have HR2:Hid (w2.heap[gb]? = some (.cells #[.int .i64 X.k,.int .i64 X.m,.int .i64 X.u,.int .i64 X.g,.int .i64 X.s,.int .i64 X.l,.int .i64 X.up,.slice (some ⟨g1,0,none⟩) N c1] 103 (0,0))):=by show _=_;rw[<-HW2.out];exact heap_setCell_same _ _ 7 _ _ _ HRW.out
 have HG2:Hid (w2.heap[g1]? = some (.cells cu1 3 (0,0))):=by show _=_;rw[<-HW2.out];exact (Below.heap_setCell _ _ _ _ (Ne.symm hne1)).trans hh1
 have n7:w2.cell? ⟨gb,7,none⟩=some (.slice (some ⟨g1,0,none⟩) N c1):=(qag HR2.out).2.2.2.2.2.2.2
 obtain⟨y,Hy⟩:∃ y,Hid (X.P[k]'hk=y):=⟨_,rfl⟩
 have nk:w2.cell? ⟨g1,k,none⟩=some (.int .i64 y):=by
  rw[cell_of_row _ _ _ _ _ _ HG2.out,<-Array.getElem?_toList]
  have h3:(cu1.toList.take (N*1))[k]? = (ints X.P)[k]? :=by rw[ht1]
  rw[List.getElem?_take,if_pos (by omega),qdn X.P k hk,Hy.out]at h3
  exact h3
 have fk:w2.frozen? ⟨g1,k,none⟩=false:=frozen_of_row _ _ _ _ _ HG2.out
 have HO2:Hid (ybqo x s y p' fo):=by show _;rw[<-Hy.out];exact HO.out
 have HT1:=Lib.hid ht1
 have HS1:Hid (N<=c1/\cu1.size=c1*1/\w.heap.size<=g1):=⟨hc1,hs1,hg1⟩
 clear hO1 hb1 hh1 ht1 hc1 hm1 hs1 hg1 HCL
 go_upto_region 1 with fail
 rw[HW2.out]
 have HOW:Hid (∀ W:World,Below w2.heap.size w2 W->Calls Tryz.prog 93 #[.pointer (some ⟨gt,0,none⟩),.int .i64 y] W
   (fun e w'=>e=.returned (.int .i64 (p':Int))/\qbg w0.heap.size (fun i=>F i\/i=g1) gt (.pointer (some ⟨gf,0,none⟩)) { x with fo:=fo } T W w')):=fun W hW=>tx_own (HT2.out.below hW) (HF2.out.below hW) y p' fo HO2.out
 have HGT:Hid (¬ T gb/\¬ T g1/\gb<w2.heap.size/\g1<w2.heap.size):=⟨hgb.2.1,fun hc=>by have:=HT2.out.fin g1 hc;have h2:=h.fin g1 hc;have h3:=HS1.out.2.2;omega,qac HR2.out,qac HG2.out⟩
 have HS:∀ W:World,(∃ W0,Below w2.heap.size w2 W0/\qab T W0 W)->(W.cell? ⟨gb,7,none⟩=some (.slice (some ⟨g1,0,none⟩) N c1)/\W.cell? ⟨g1,k,none⟩=some (.int .i64 y)/\W.frozen? ⟨g1,k,none⟩=false):=fun W ⟨W0,hW,hk⟩=>
  ⟨((hk.cell (Nat.lt_of_lt_of_le HGT.out.2.2.1 hW.size) HGT.out.1).trans (hW.cell (p:=⟨gb,7,none⟩) HGT.out.2.2.1)).trans n7,((hk.cell (Nat.lt_of_lt_of_le HGT.out.2.2.2 hW.size) HGT.out.2.1).trans (hW.cell (p:=⟨g1,k,none⟩) HGT.out.2.2.2)).trans nk,
   frozen_of_row _ _ _ _ _ ((hk.block g1 (Nat.lt_of_lt_of_le HGT.out.2.2.2 hW.size) HGT.out.2.1).trans (qaa hW HG2.out))⟩
 have HSS:=Lib.hid HS
 have m0:=HSS.out w2.drew ⟨w2.drew,(Below.refl _ _).drew,qab.refl _ _⟩
 clear HS c7 f7 d7 e7
 go_cut [0,1,2,3] (fun s0 s1 s2 s3 wx=>s0=.pointer (some ⟨gt,0,none⟩)/\s1=.pointer (some ⟨gb,0,none⟩)/\s2=.int .i64 (k:Int)/\s3=v/\∃ W,Hid (qbg w0.heap.size (fun i=>F i\/i=g1) gt (.pointer (some ⟨gf,0,none⟩)) { x with fo:=fo } T w2.drew W)/\Hid (wx=W.setCell ⟨g1,k,none⟩ (.int .i64 (p':Int))))
 case first=>
  go_region_with (first
   | (go_at_call 93;go_loud ((with_reducible refine (HOW.out w2.drew (Below.refl _ _).drew).mono ?_);(rintro e w3 ⟨rfl,hd3⟩);(obtain⟨m3a,m3b,m3c⟩:=HSS.out w3 ⟨w2.drew,(Below.refl _ _).drew,hd3.choose_spec.2.2.1⟩);(have HD3:=Lib.hid hd3);clear hd3)))
  all_goals
   go_wp2_with fail
   go_meet
   case rel=>exact⟨rfl,rfl,rfl,rfl,_,HD3,rfl⟩
 case rest=>
  obtain⟨rfl,rfl,rfl,rfl,W,⟨T',t1,t2,t3,t4⟩,HWC⟩:=hcut
  have HT1':=Lib.hid t1
  have hgT':¬ T' gb/\¬ T' g1:=⟨fun hc=>(t2 gb hc).elim HGT.out.1 (fun h1=>absurd h1 (Nat.not_le_of_lt HGT.out.2.2.1)),fun hc=>(t2 g1 hc).elim HGT.out.2.1 (fun h1=>absurd h1 (Nat.not_le_of_lt HGT.out.2.2.2))⟩
  have hGW:W.heap[g1]? = some (.cells cu1 3 (0,0)):=(t3.block g1 HGT.out.2.2.2 HGT.out.2.1).trans HG2.out
  have hRW:W.heap[gb]? = some (.cells #[.int .i64 X.k,.int .i64 X.m,.int .i64 X.u,.int .i64 X.g,.int .i64 X.s,.int .i64 X.l,.int .i64 X.up,.slice (some ⟨g1,0,none⟩) N c1] 103 (0,0)):=(t3.block gb HGT.out.2.2.1 HGT.out.1).trans HR2.out
  have HTW:Hid (TxAt wc w0.heap.size (fun i=>F i\/i=g1) gt (.pointer (some ⟨gf,0,none⟩)) { x with fo:=fo } T'):=by
   show _
   rw[HWC.out]
   exact HT1'.out.local (Or.inr rfl) hgT'.2 hGW (by decide) (qab.setCell (F:=fun i=>i=g1) (p:=⟨g1,k,none⟩) rfl _)
  have hgwl:g1<W.heap.size:=qac hGW
  obtain⟨cu2,HC2⟩:∃ cu,Hid (cu1.setIfInBounds k (.int .i64 (p':Int))=cu):=⟨_,rfl⟩
  have HGC:Hid (wc.heap[g1]? = some (.cells cu2 3 (0,0))):=by show _=_;rw[HWC.out,<-HC2.out];exact heap_setCell_same _ _ k _ _ _ hGW
  have HRC:Hid (wc.heap[gb]? = some (.cells #[.int .i64 X.k,.int .i64 X.m,.int .i64 X.u,.int .i64 X.g,.int .i64 X.s,.int .i64 X.l,.int .i64 X.up,.slice (some ⟨g1,0,none⟩) N c1] 103 (0,0))):=by show _=_;rw[HWC.out];exact (Below.heap_setCell _ _ _ _ hne1).trans hRW
  have HCI:Hid (cu2.toList.take N=ints (X.P.set k (p':Int))):=by
   show _=_
   rw[<-HC2.out]
   have h1:=HT1.out
   rw[Nat.mul_one]at h1
   rw[Array.toList_setIfInBounds,List.take_set,h1]
   unfold ints
   rw[List.map_set]
  have HK3:Hid (qab (fun i=>T i\/i=gb) w wc):=by
   show _
   rw[HWC.out]
   have k1:qab (fun i=>T i\/i=gb) w w2:=HK2.out.mono fun i _ hi=>Or.inr hi
   have k2:qab (fun i=>T i\/i=gb) w2 W:=(qab.of_below ((Below.refl _ _).drew)).step (t3.mono fun i _ hi=>Or.inl hi)
   exact (k1.step k2).trans (qab.setCell (F:=fun i=>i=g1) (p:=⟨g1,k,none⟩) rfl _) fun i hi=>Or.inr (by rw[hi];exact HS1.out.2.2)
  have HTT:Hid ((∀ i,T' i->T i\/w.heap.size<=i)/\∀ i,T i->T' i):=⟨fun i hi=>(t2 i hi).imp id (fun h1=>Nat.le_trans HK2.out.size h1),t4⟩
  have HGT':=Lib.hid hgT'
  obtain⟨rv,gn,cn,gd,gp,gv,E,pl,hl⟩:=HTW.out.lies
  obtain⟨_,_,_,_,c196,_⟩:=qbt hl.row
  have n7:wc.cell? ⟨gb,7,none⟩=some (.slice (some ⟨g1,0,none⟩) N c1):=(qag HRC.out).2.2.2.2.2.2.2
  have nk:wc.cell? ⟨g1,k,none⟩=some (.int .i64 (p':Int)):=by
   rw[cell_of_row _ _ _ _ _ _ HGC.out,<-Array.getElem?_toList]
   have h3:(cu2.toList.take N)[k]? = (ints (X.P.set k (p':Int)))[k]? :=by rw[HCI.out]
   rw[List.getElem?_take,if_pos hkN,qdn _ k (by rw[List.length_set];exact hk),List.getElem_set_self]at h3
   exact h3
  have k196:=cell_regrown c196
  have k7:=cell_regrown n7
  have kk:=cell_regrown nk
  have HL:=Lib.hid hl
  have HVC:Hid (qet wc w0.heap.size u3 D):=by
   obtain⟨g,cap,cur,z1,z2,z3,z4,z5,z6⟩:=HV.out
   refine⟨g,cap,cur,z1,z2,z3,z4,(HK3.out.block g (qac z5) (fun hT=>?_)).trans z5,z6⟩
   rcases hT with hT | hT
   ·exact HVT.out g (by rw[z1];rfl) hT
   ·rw[hT,HR.out]at z5;injection z5 with z5;injection z5 with _ z5;exact absurd z5 (by decide)
  clear t1 t2 t3 t4 hGW hRW hgT' hl c196 n7 nk m0 HOW HSS
  go_wp2_with fail
  refine qdu 12 (by kernel_rfl) (by kernel_rfl) ?_
  simp only[List.take_succ_cons,List.take_zero,List.drop_succ_cons,List.drop_zero]
  repeat (first
   | go_big_quiet_skip
   | (go_big_quiet_want;go_big_quiet_op;go_big_quiet_on))
  refine wpQuiet_nil ?_
  intro w5 hw5
  have HB5:=Lib.hid (qcd hw5)
  have HP5:Hid (MapL Tryz.prog 3 w5 gp pl):=HL.out.puts.of_block (HB5.out.block _ HL.out.puts.lt)
  have hl5:pl.length<900:=by rw[HL.out.secs.len];exact hpl
  go_wp2_with (at_mapUpdate;refine qhv _ rfl _ _ _ _ rfl 3 38 intT qpu gp pl (p':Int) u3 rfl HP5.out (by omega) rfl rfl (by unfold InZ;omega) ?_;intro w6 hm6 ht6)
  go_end0
  have hk6:qab (fun i=>i=gp) w5 w6:=qab.grown ht6.grown (fun r hr=>by injection hr with hr;exact hr.symm)
  have hV5:qet w5 w0.heap.size u3 D:=qgp HVC.out fun g cc _ hc=>HB5.out.block g (qac hc)
  have hT6:=(HL.out.below HB5.out).putMap (HTW.out.below HB5.out) (p':Int) u3 D hV5 hk6 hm6 (by show x.put.length<1000;omega)
  have hb6:∀ (b:Nat) (c:Array Value) (t:TypeId),wc.heap[b]? = some (.cells c t (0,0))->w6.heap[b]? = some (.cells c t (0,0)):=fun b c t hc=>by
   have h5:=qaa HB5.out hc
   exact (hk6.block b (qac h5) (qaj h5 HP5.out)).trans h5
  refine⟨rfl,T',hT6.outer (fun i _ hi=>Or.inl hi),HTT.out.1,HTT.out.2,?_,g1,c1,?_,⟨HS1.out.2.2,HGT'.out.2,?_⟩,cu2,hb6 g1 _ _ HGC.out,?_⟩
  ·refine (HK3.out.step (qab.of_below HB5.out)).trans hk6 fun i hi=>?_
   rcases HTT.out.1 gp HL.out.tp with h1 | h1
   ·exact Or.inl (Or.inl (by rw[hi];exact h1))
   ·exact Or.inr (by rw[hi];exact h1)
  ·rw[HN.out];exact hb6 gb _ _ HRC.out
  ·rw[HN.out];exact HS1.out.1
  ·rw[HN.out];exact HCI.out
def qbm (f:Fo):Prop:=∀ k,1<=k->k<4->qbd f k=false
theorem qbm.use {f:Fo} (h:qbm f) (n:Nat):qbm (useF f n):=fun k h1 h4=>h k h1 h4
def qto (f:Fo) (k:Nat):Option Nat:=(List.range k).find? fun n=>decide (37<=n) && !qfe f 4 n
theorem ybeu {f:Fo} {k n:Nat} (h:qto f k=some n):ybet f k n:=by
 unfold qto at h
 rw[List.find?_range_eq_some]at h
 obtain⟨h1,h2,h3⟩:=h
 simp only[Bool.and_eq_true,decide_eq_true_eq,Bool.not_eq_true']at h1
 refine⟨h1.1,List.mem_range.1 h2,h1.2,fun m m1 m2=>?_⟩
 have:=h3 m m2
 simpa[m1]using this
def ownE (f:Fo) (k:Nat) (p:Int):Option (Nat × Fo):=if p=0 then (qto f k).map fun n=>(n,useF f n) else if 0<p/\p<256 then some (p.toNat,f) else none
theorem ybcz {x:Tx} {s:Fs} {p:Int} {p':Nat} {fo:Fo} (h:ownE x.fo s.k p=some (p',fo)) (hn:qbm x.fo) (hk:s.k<=256):ybqo x s p p' fo/\p'<256/\qbm fo:=by
 unfold ownE at h
 by_cases h0:p=0
 ·rw[if_pos h0]at h
  cases hf:qto x.fo s.k with
  | none=>rw[hf]at h;cases h
  | some n=>
   rw[hf]at h
   simp only[Option.map_some,Option.some.injEq,Prod.mk.injEq]at h
   obtain⟨rfl,rfl⟩:=h
   have:=ybeu hf
   exact⟨Or.inl ⟨h0,this,rfl⟩,by have:=this.2.1;omega,hn.use _⟩
 ·rw[if_neg h0]at h
  by_cases h1:0<p/\p<256
  ·rw[if_pos h1]at h
   simp only[Option.some.injEq,Prod.mk.injEq]at h
   obtain⟨rfl,rfl⟩:=h
   exact⟨Or.inr ⟨by omega,by omega,by omega,hn,rfl⟩,by omega,hn⟩
  ·rw[if_neg h1]at h;cases h
def blkB (D:List Int) (i:Nat):List Int:=over (List.replicate 64 0) 0 (((D.drop (64*i))).take 64)
structure Fw where
 fo:Fo
 put:List (Int × List Int)
 P:List Int
def qcx (k:Nat) (D:List Int) (st:Fw):Nat->Option Fw
 | 0=>some st
 | i+1=>(qcx k D st i).bind fun y=>(ownE y.fo k (y.P.getD i 0)).map fun q=>⟨q.2,putZ y.put (q.1:Int) (blkB D i),y.P.set i (q.1:Int)⟩
theorem qgu {k:Nat} {D:List Int} {st:Fw}:∀ {i:Nat} {y:Fw},qcx k D st i=some y->y.P.length=st.P.length/\y.put.length<=st.put.length+i
 | 0,y,h=>by simp only[qcx,Option.some.injEq]at h;subst h;exact⟨rfl,Nat.le_refl _⟩
 | i+1,y,h=>by
  unfold qcx at h
  cases h1:qcx k D st i with
  | none=>rw[h1]at h;cases h
  | some z=>
   rw[h1]at h
   simp only[Option.bind_some]at h
   cases h2:ownE z.fo k (z.P.getD i 0) with
   | none=>rw[h2]at h;cases h
   | some q=>
    rw[h2]at h
    simp only[Option.map_some,Option.some.injEq]at h
    subst h
    obtain⟨a,b⟩:=qgu h1
    refine⟨by simpa using a,?_⟩
    have:=qdo (q.1:Int) (blkB D i) z.put
    show (putZ z.put (q.1:Int) (blkB D i)).length<=_
    omega
theorem qoi {k:Nat} {D:List Int} {st:Fw} (hs:qbm st.fo):∀ {i:Nat} {y:Fw},qcx k D st i=some y->qbm y.fo
 | 0,y,h=>by simp only[qcx,Option.some.injEq]at h;subst h;exact hs
 | i+1,y,h=>by
  unfold qcx at h
  cases h1:qcx k D st i with
  | none=>rw[h1]at h;cases h
  | some z=>
   rw[h1]at h
   simp only[Option.bind_some]at h
   cases h2:ownE z.fo k (z.P.getD i 0) with
   | none=>rw[h2]at h;cases h
   | some q=>
    rw[h2]at h
    simp only[Option.map_some,Option.some.injEq]at h
    subst h
    have hz:=qoi hs h1
    unfold ownE at h2
    split at h2
    ·cases hf:qto z.fo k with
     | none=>rw[hf]at h2;cases h2
     | some n=>rw[hf]at h2;simp only[Option.map_some,Option.some.injEq]at h2;subst h2;exact hz.use n
    ·split at h2
     ·simp only[Option.some.injEq]at h2;subst h2;exact hz
     ·cases h2
theorem qpd {k:Nat} {D:List Int} {st:Fw} {n:Nat} {y:Fw} (h:qcx k D st n=some y):∀ i,i<=n->∃ z,qcx k D st i=some z:=by
 induction n generalizing y with
 | zero=>
  intro i hi
  obtain rfl:i=0:=by omega
  exact⟨_,h⟩
 | succ n ih=>
  intro i hi
  by_cases he:i=n+1
  ·subst he;exact⟨_,h⟩
  ·unfold qcx at h
   cases h1:qcx k D st n with
   | none=>rw[h1]at h;cases h
   | some z=>exact ih h1 i (by omega)
theorem qnm {P:Program} (w:World) (dT sT ty elem:TypeId) (hu:P.underlying dT=some (.slice elem)) (hsz:(P.info? elem).map (·.size)=some 1) (g:Nat) (cur D:List Int) (t:TypeId) (hg:w.heap[g]? = some (.cells (u8s cur).toArray t (0,0))) (hl:cur.length=64)
  (g' o' m c:Nat) (hm:D.length=m) (hc:∀ (j:Nat) (x:Value),(u8s D)[j]? = some x->w.cell? ⟨g',o'+j,none⟩=some x):
  (Builtin.copy_ #[dT,sT] ty #[.slice (some ⟨g,0,none⟩) 64 64,.slice (some ⟨g',o',none⟩) m c]).run P w=.ok (goInt (u8s (D.take 64)).length) (w.setRow g (u8s (over cur 0 (D.take 64))).toArray):=by
 have hrun:=run_copy_row (P:=P) w dT sT ty elem g 0 64 64 ⟨g',o',none⟩ m c (u8s cur).toArray t (u8s (D.take 64)) hu hsz hg (by rw[qal,List.length_take,hm];exact Nat.min_comm 64 m) (fun j v hv=>by
  have hadd:(⟨g',o',none⟩:Addr).add j=⟨g',o'+j,none⟩:=by unfold Addr.add;split <;> simp_all
  rw[hadd]
  rw[qdf,List.getElem?_take]at hv
  split at hv
  ·exact hc j v hv
  ·cases hv) (by rw[Nat.zero_add,qal,List.length_take,show (u8s cur).toArray.size=64 by simp[qal,hl]];exact Nat.min_le_left _ _) (qga _)
 have e:((u8s cur).toArray.toList.take 0++u8s (D.take 64)++(u8s cur).toArray.toList.drop (0+(u8s (D.take 64)).length)).toArray=(u8s (over cur 0 (D.take 64))).toArray:=by
  unfold over
  rw[qbj,qbj,List.toList_toArray,List.take_zero,List.take_zero,qdq,qal]
  rfl
 rw[e]at hrun
 exact hrun
structure LF (w0 w : World) (F T : Nat -> Prop) (gt gf gb : Nat) (x : Tx) (X : Pn) (nD : Nat) (K : Nat) (yj : Fw) (wq : World) : Prop where
 ex:∃ T' q' c',TxAt wq w0.heap.size F gt (.pointer (some ⟨gf,0,none⟩)) { x with fo:=yj.fo,put:=yj.put } T'/\(∀ i,T' i->T i\/w.heap.size<=i)/\(∀ i,T i->T' i)/\¬ T' gb /\
  wq.heap[gb]? = some (.cells #[.int .i64 X.k,.int .i64 X.m,.int .i64 X.u,.int .i64 X.g,.int .i64 (nD:Int),.int .i64 X.l,.int .i64 X.up,.slice q' K c'] 103 (0,0)) /\
  qao wq (.slice q' K c') yj.P/\∀ b,(Value.slice q' K c').ownBlock=some b->w.heap.size<=b/\¬ T' b
 keeps:qab T w wq
theorem ybds {w w0:World} {F F1 T:Nat->Prop} {gt gf:Nat} {x:Tx} {s:Fs} {a:Addr} {B0:Nat} (hf:FsAt w0 gf s F1 B0 a) (hb:Below w0.heap.size w0 w) (h:TxAt w w0.heap.size F gt (.pointer (some ⟨gf,0,none⟩)) x T) (hF:∀ i,F i->i<w.heap.size)
  (i:Nat) (hi:i<32) (X:Pn) (hX:x.nodes[i]? = some X) (v:Value) (D:List Int) (hv:qbk w v D) (hvT:∀ b,v.ownBlock=some b->¬ T b) (hD:D.length<=512) (hg:X.P.length<=(D.length+63) / 64)
  (hn:qbm x.fo) (y:Fw) (hy:qcx s.k D ⟨x.fo,x.put,X.P++List.replicate ((D.length+63) / 64 - X.P.length) 0⟩ ((D.length+63) / 64)=some y) (hpl:x.put.length<800) (hdl:x.dirty.length<900):
  Calls Tryz.prog 91 #[.pointer (some ⟨gt,0,none⟩),.int .i64 ((i:Int)+1),v] w
   (fun e w'=>e=.returned (.tuple #[])/\qbg w0.heap.size F gt (.pointer (some ⟨gf,0,none⟩)) { x with fo:=y.fo,put:=y.put,nodes:=x.nodes.set i { X with P:=y.P,s:=(D.length:Int) },dirty:=putZ x.dirty ((i:Int)+1) (.bool true) } T w w'):=by
 have H:=Lib.hid h
 have HF:=Lib.hid hf
 have HBB:=Lib.hid hb
 have HV:=Lib.hid hv
 have HVT:=Lib.hid hvT
 have HFF:=Lib.hid hF
 obtain⟨K,HK⟩:∃ K,Hid ((D.length+63) / 64=K):=⟨_,rfl⟩
 rw[HK.out]at hg hy
 have hK8:K<=8:=by rw[<-HK.out];omega
 have HND:=Lib.hid (qkh h i hi X hX)
 have HBK:Hid (∀ W:World,Calls Tryz.prog 50 #[.int .i64 (D.length:Int)] W fun e w'=>e=.returned (.int .i64 (K:Int))/\W=w'):=fun W=>by
  have:=qhx (D.length:Int) W (by omega) (by omega)
  have e:qcc (D.length:Int)=(K:Int):=by unfold qcc;rw[<-HK.out];split <;> omega
  rw[e]at this
  exact this
 obtain⟨nD,HnD⟩:∃ n,Hid (D.length=n):=⟨_,rfl⟩
 obtain⟨vp,vc,hvs⟩:=qcq hv.1 nD HnD.out
 subst hvs
 rw[HnD.out]at HBK hD
 have HY:=Lib.hid hy
 have HNS:=Lib.hid hn
 clear h hf hb hv hvT hF hy hn hX
 go_enter Tryz.func91,Tryz.ntmps91
 go_wp2_with fail
 refine HND.out.mono ?_
 rintro e w1 ⟨q,n,c,rfl,hnv,hb1⟩
 have HB1:=Lib.hid hb1
 have HNV:=Lib.hid hnv
 clear hb1 hnv HND
 go_wp2_with fail
 refine (HBK.out _).mono ?_
 rintro e w2 ⟨rfl,rfl⟩
 obtain⟨gb,Hgb⟩:∃ x,Hid (w1.heap.size=x):=⟨_,rfl⟩
 have HB2:Hid (Below w.heap.size w (w1.alloc (.cells #[.int .i64 X.k,.int .i64 X.m,.int .i64 X.u,.int .i64 X.g,.int .i64 X.s,.int .i64 X.l,.int .i64 X.up,.slice q n c] 103))):=HB1.out.alloc HB1.out.size _
 have HR2:Hid ((w1.alloc (.cells #[.int .i64 X.k,.int .i64 X.m,.int .i64 X.u,.int .i64 X.g,.int .i64 X.s,.int .i64 X.l,.int .i64 X.up,.slice q n c] 103)).heap[gb]? = some (.cells #[.int .i64 X.k,.int .i64 X.m,.int .i64 X.u,.int .i64 X.g,.int .i64 X.s,.int .i64 X.l,.int .i64 X.up,.slice q n c] 103 (0,0))):=by rw[<-Hgb.out];exact heap_alloc_new _ _
 have HP2:Hid (qao (w1.alloc (.cells #[.int .i64 X.k,.int .i64 X.m,.int .i64 X.u,.int .i64 X.g,.int .i64 X.s,.int .i64 X.l,.int .i64 X.up,.slice q n c] 103)) (.slice q n c) X.P):=qai.below HNV.out.now ((Below.refl _ _).alloc (Nat.le_refl _) _)
 have hgw:w.heap.size<=gb:=by rw[<-Hgb.out];exact HB1.out.size
 rw[Hgb.out]
 generalize w1.alloc (.cells #[.int .i64 X.k,.int .i64 X.m,.int .i64 X.u,.int .i64 X.g,.int .i64 X.s,.int .i64 X.l,.int .i64 X.up,.slice q n c] 103)=w2 at *
 have HT2:Hid (TxAt w2 w0.heap.size (fun i=>F i\/i=gb) gt (.pointer (some ⟨gf,0,none⟩)) x T):=H.out.grow HB2.out gb hgw
 have c7:=(qag HR2.out).2.2.2.2.2.2.2
 clear HNV HB1
 go_wp2_with fail
 refine (qgh (.slice q n c) X.P w2 HP2.out (by omega)).mono ?_
 rintro e w3 ⟨v3,rfl,hO3,hb3,_⟩
 have HO3:=Lib.hid hO3
 have HB3:=Lib.hid hb3
 have HR3:=Lib.hid (qaa hb3 HR2.out)
 obtain⟨q3,c3,hv3,_⟩:=qat hO3
 subst hv3
 obtain⟨m,Hm⟩:∃ m,Hid (X.P.length=m):=⟨_,rfl⟩
 rw[Hm.out]at HO3 hg ⊢
 clear hO3 hb3 c7 HP2
 go_wp2
 go_loopw [8] (fun pv wr=>pv=.slice q3 m c3/\Hid (wr=w3)) (fun _ _=>0)
 case atStart=>exact⟨rfl,rfl⟩
 case round=>
  obtain⟨rfl,hwr⟩:=hrel
  have hwr2:=hwr.out
  subst hwr2
  have hg2:¬ ((K:Int)<(m:Int)):=by omega
  have hg3:¬ K<m:=by omega
  obtain⟨i0,hi0,hz0,hz1,hz2⟩:=info_parts qiv
  have HI0:=Lib.hid hi0
  have HIZ:=Lib.hid hz0
  have HI1:=Lib.hid hz1
  have HI2:=Lib.hid hz2
  clear hi0 hz0 hz1 hz2 hwr
  go_wp2
  go_loopw [8] (fun pv wq=>∃ j:Nat,m<=j/\j<=K/\Hid (wq.ownsRow w2.heap.size 3 1 pv j (ints (X.P++List.replicate (j - m) 0)))/\Hid (Below w2.heap.size w2 wq)) (fun pv _=>K - lenV pv)
  case atStart=>exact⟨m,Nat.le_refl _,hg,by rw[Nat.sub_self,List.replicate_zero,List.append_nil];exact HO3,HB3⟩
  case round=>
   obtain⟨j,hj1,hj2,HOj,HBj⟩:=hrel
   obtain⟨qj,cj,hvj,_⟩:=qat HOj.out
   subst hvj
   by_cases hjK:j<K
   ·have hjK2:(j:Int)<(K:Int):=by omega
    have hjm:(ints (X.P++List.replicate (j - m) 0))++[Value.int .i64 0]=ints (X.P++List.replicate (j+1 - m) 0):=by
     rw[show j+1 - m=(j - m)+1 by omega,List.replicate_succ',<-List.append_assoc]
     simp[ints]
    have HJM:=Lib.hid hjm
    have HOA:=Lib.hid (fun o=>qap HOj.out ((Below.refl wr.heap.size wr).alloc (Nat.le_refl _) o))
    have HSX:Hid (w2.heap.size<=wr.heap.size):=HBj.out.size
    clear hjm
    go_wp2_with (at_builtin;refine wpList_append_own _ rfl _ _ 32 rfl w2.heap.size 3 i0 (.int .i64 0) 1 8 qpe HI0.out HIZ.out HI1.out HI2.out rfl (by decide) _ _ _ rfl (HOA.out _) ⟨wr.heap.size,0,none⟩ 1 1 [.int .i64 0] rfl rfl (World.news_of_block (cs:=#[.int .i64 0]) (t:=3) (fr:=(0,0)) (heap_alloc_new wr _)) (by simp[Value.oneCell']) (by unfold maxLen;omega) (by omega) (by have:=HSX.out;simp;omega) ?_;intro v5 w5 hown hgrow _)
    have HO5:Hid (w5.ownsRow w2.heap.size 3 1 v5 (j+1) (ints (X.P++List.replicate (j+1 - m) 0))):=by show _;rw[<-HJM.out];exact hown
    have HB5:Hid (Below w2.heap.size w2 w5):=Below.grown (HBj.out.alloc HBj.out.size _) hgrow (by have:=HSX.out;simp;omega) (fun r hr=>(HOj.out.lt r hr).1)
    clear hown hgrow
    go_wp2
    go_roundw
    case rel=>exact⟨j+1,by omega,by omega,HO5,HB5⟩
    case measure=>
     obtain⟨q5,c5,h5,_⟩:=qat HO5.out
     rw[h5]
     simp[lenV];omega
   ·obtain rfl:j=K:=by omega
    have hjK2:¬ ((j:Int)<(j:Int)):=by omega
    have hRj:=qaa HBj.out HR2.out
    have s4:wr.cell? ⟨gb,4,none⟩=some (.int .i64 X.s):=(qag hRj).2.2.2.2.1
    have s7:wr.cell? ⟨gb,7,none⟩=some (.slice q n c):=(qag hRj).2.2.2.2.2.2.2
    have z4:wr.frozen? ⟨gb,4,none⟩=false:=frozen_of_row _ _ _ _ _ hRj
    have z7:wr.frozen? ⟨gb,7,none⟩=false:=frozen_of_row _ _ _ _ _ hRj
    have HRj:=Lib.hid hRj
    clear hRj
    go_wp2
    have hj8:j<=8:=hK8
    have hgwr:gb<wr.heap.size:=qac HRj.out
    have hk6:qab (fun i=>i=gb) wr ((wr.setCell ⟨gb,7,none⟩ (.slice qj j cj)).setCell ⟨gb,4,none⟩ (.int .i64 (nD:Int))):=(qab.setCell (F:=fun i=>i=gb) (p:=⟨gb,7,none⟩) rfl _).step (qab.setCell (F:=fun i=>i=gb) (p:=⟨gb,4,none⟩) rfl _)
    have hr6:((wr.setCell ⟨gb,7,none⟩ (.slice qj j cj)).setCell ⟨gb,4,none⟩ (.int .i64 (nD:Int))).heap[gb]? = some (.cells #[.int .i64 X.k,.int .i64 X.m,.int .i64 X.u,.int .i64 X.g,.int .i64 (nD:Int),.int .i64 X.l,.int .i64 X.up,.slice qj j cj] 103 (0,0)):=
     heap_setCell_same _ _ 4 _ _ _ (heap_setCell_same _ _ 7 _ _ _ HRj.out)
    have hwb:Below w.heap.size w wr:=HB2.out.trans (HBj.out.mono HB2.out.size)
    have hTj:TxAt wr w0.heap.size (fun i=>F i\/i=gb) gt (.pointer (some ⟨gf,0,none⟩)) x T:=HT2.out.below HBj.out
    have hgT:¬ T gb:=fun hc=>by have:=H.out.fin gb hc;omega
    have HLF0:Hid (LF w0 w (fun i=>F i\/i=gb) T gt gf gb x X nD j ⟨x.fo,x.put,X.P++List.replicate (j - m) 0⟩ ((wr.setCell ⟨gb,7,none⟩ (.slice qj j cj)).setCell ⟨gb,4,none⟩ (.int .i64 (nD:Int)))):=by
     refine⟨⟨T,qj,cj,hTj.local (Or.inr rfl) hgT HRj.out (by decide) hk6,fun _ hi=>Or.inl hi,fun _ hi=>hi,hgT,hr6,?_,fun b hb=>?_⟩,(qab.of_below hwb).trans hk6 fun i hi=>Or.inr (by rw[hi];exact hgw)⟩
     ·have h1:qao wr (.slice qj j cj) (X.P++List.replicate (j - m) 0):=by
       have:=qai.of_owns HOj.out
       have hl:j=(X.P++List.replicate (j - m) 0).length:=by rw[List.length_append,List.length_replicate,Hm.out];omega
       unfold qao
       rw[<-hl]
       exact this
      exact qja h1 fun b hb hl=>hk6.block b hl (fun hc=>by
       have h2:=(HOj.out.lt b hb).1
       rw[hc]at h2
       have:=qac HR2.out
       omega)
     ·have h2:=(HOj.out.lt b hb)
      exact⟨Nat.le_trans HB2.out.size h2.1,fun hc=>by have:=H.out.fin b hc;have:=HB2.out.size;omega⟩
    generalize (wr.setCell ⟨gb,7,none⟩ (.slice qj j cj)).setCell ⟨gb,4,none⟩ (.int .i64 (nD:Int))=w6 at *
    rw[Hm.out]at HY
    go_loopw [57] (fun iv wq=>∃ (k:Nat) (yk:Fw),k<=j/\iv=.int .i64 k/\Hid (qcx s.k D ⟨x.fo,x.put,X.P++List.replicate (j - m) 0⟩ k=some yk)/\Hid (LF w0 w (fun i=>F i\/i=gb) T gt gf gb x X nD j yk wq)) (fun iv _=>j - (intOf iv).toNat)
    case atStart=>exact⟨0,_,Nat.zero_le _,rfl,rfl,HLF0⟩
    case round=>
     obtain⟨k,yk,hkj,rfl,HYK,HLK⟩:=hrel
     by_cases hkl:k<j
     ·obtain⟨⟨T',q',c',hT',t1,t2,t3,hR',hP',hbl'⟩,hkp⟩:=HLK.out
      obtain⟨y1,hy1⟩:=qpd HY.out (k+1) (by omega)
      have hst:=hy1
      unfold qcx at hst
      rw[HYK.out,Option.bind_some]at hst
      obtain⟨⟨p',fo'⟩,hown,hy1e⟩:=Option.map_eq_some_iff.1 hst
      have hPl:yk.P.length=j:=by
       have:=(qgu HYK.out).1
       rw[this,List.length_append,List.length_replicate,Hm.out]
       omega
      have hkP:k<yk.P.length:=by omega
      have hgd:yk.P.getD k 0=yk.P[k]:=by rw[List.getD_eq_getElem?_getD,List.getElem?_eq_getElem hkP];rfl
      rw[hgd]at hown
      have hsn:qbm yk.fo:=qoi HNS.out HYK.out
      obtain⟨ho1,hp256,_⟩:=ybcz (x:={ x with fo:=yk.fo,put:=yk.put }) (s:=s) hown hsn HF.out.k1
      have hkn:64*k<nD:=by have:=HK.out;rw[HnD.out]at this;omega
      have hcap:nD<=vc:=HV.out.2 _ _ _ rfl
      obtain⟨_,⟨h0,_⟩ | ⟨gv,ov,cv,hvv,hcv⟩⟩:=id HV.out.1
      ·have:=HnD.out;omega
      injection hvv with e1 e2 e3
      subst e1 e3
      clear e2
      have hvw:gv<w.heap.size:=block_lt_of_cell (hcv 0 _ (qcj D 0 (by have:=HnD.out;omega)))
      obtain⟨Z,HZ⟩:∃ Z,Hid (Z=List.replicate 64 (0:Int)):=⟨_,rfl⟩
      have hmk:∀ W:World,(Instr.makeSlice 38 (.int .i64 64) (.int .i64 64)).run Tryz.prog W=.ok (.slice (some ⟨W.heap.size,0,none⟩) 64 64) (W.alloc (.cells (u8s Z).toArray 5)):=fun W=>by
       rw[HZ.out];exact qht 64 64 rfl (by omega) W
      have hcr:∀ (r:Nat) (u:Value),(u8s (D.drop (64*k)))[r]? = some u->(wr.alloc (.cells (u8s Z).toArray 5)).cell? ⟨gv,ov+64*k+r,none⟩=some u:=fun r u hr=>by
       rw[qdq,List.getElem?_drop]at hr
       have h1:=hcv (64*k+r) u hr
       rw[<-Nat.add_assoc]at h1
       rw[World.cell?_alloc_lt _ _ _ (Nat.lt_of_lt_of_le hvw hkp.size),hkp.cell hvw (HVT.out gv rfl)]
       exact h1
      have hcp:=qnm (P:=Tryz.prog) (wr.alloc (.cells (u8s Z).toArray 5)) 38 38 3 5 u8sT qlb wr.heap.size Z (D.drop (64*k)) 5 (heap_alloc_new wr _) (by rw[HZ.out];simp) gv (ov+64*k) (nD - 64*k) (vc - 64*k) (by rw[List.length_drop,HnD.out]) hcr
      obtain⟨W,HW⟩:∃ W,Hid ((wr.alloc (.cells (u8s Z).toArray 5)).setRow wr.heap.size (u8s (over Z 0 ((D.drop (64*k)).take 64))).toArray=W):=⟨_,rfl⟩
      rw[HW.out]at hcp
      obtain⟨nc,Hnc⟩:∃ n,Hid (goInt (u8s ((D.drop (64*k)).take 64)).length=n):=⟨_,rfl⟩
      rw[Hnc.out]at hcp
      have hbW:Below wr.heap.size wr W:=by
       rw[<-HW.out]
       exact Below.setRow ((Below.refl _ _).alloc (Nat.le_refl _) _) (Nat.le_refl _) _
      have hsW:W.heap[wr.heap.size]? = some (.cells (u8s (blkB D k)).toArray 5 (0,0)):=by
       rw[<-HW.out,show blkB D k=over Z 0 ((D.drop (64*k)).take 64) by rw[HZ.out];rfl]
       exact setRow_heap _ _ _ _ _ _ (heap_alloc_new _ _)
      have hbl64:(blkB D k).length=64:=by unfold blkB over;simp;omega
      have hS64:qet W w0.heap.size (.slice (some ⟨wr.heap.size,0,none⟩) 64 64) (blkB D k):=⟨_,64,_,rfl,hbl64,Nat.le_refl _,Nat.le_trans HBB.out.size hkp.size,hsW,by rw[List.take_of_length_le (by rw[List.toList_toArray,qal,hbl64];exact Nat.le_refl _)]⟩
      have hbW0:Below w0.heap.size w0 W:=(HBB.out.trans (hkp.to_below H.out.new HBB.out.size)).trans (hbW.mono (Nat.le_trans HBB.out.size hkp.size))
      have hXW:qao W (.slice q' j c') yk.P:=qai.below hP' hbW
      have HWR:=Lib.hid (qxb HF.out hbW0 (hT'.below hbW) gb { X with P:=yk.P,s:=(nD:Int) } q' j c' (qaa hbW hR') hXW ⟨Or.inr rfl,t3,Nat.le_trans HBB.out.size hgw⟩ k hkP (by rw[hPl];omega) p' hp256 fo' ho1 _ (blkB D k) hS64 (fun b hb hc=>by
       injection hb with hb
       have hb':wr.heap.size=b:=hb
       have:=hT'.fin b hc
       omega) (by have h1:yk.put.length<=x.put.length+k:=(qgu HYK.out).2;show yk.put.length<900;omega))
      have HKP:=Lib.hid hkp
      have HT1:=Lib.hid t1
      have HT2':=Lib.hid t2
      have HBW:=Lib.hid hbW
      have HPL:=Lib.hid hPl
      have HY1:Hid (qcx s.k D ⟨x.fo,x.put,X.P++List.replicate (j - m) 0⟩ (k+1)=some ⟨fo',putZ yk.put (p':Int) (blkB D k),yk.P.set k (p':Int)⟩):=by
       show _=_
       rw[hy1,<-hy1e]
      have HFW:Hid (∀ i,T' i->i<wr.heap.size):=hT'.fin
      have HT3:Hid (¬ T' gb/\gb<wr.heap.size):=⟨t3,qac hR'⟩
      have i64:IntKind.i64.wrap (64*(k:Int))=64*(k:Int):=IntWalk.i64_in _ (by omega)
      have hkn2:(64*(k:Int))<=(nD:Int):=by omega
      have hkc:64*k<=vc:=by omega
      have hkc2:¬ vc=64*k:=by omega
      have hkl2:(k:Int)<(j:Int):=by omega
      clear hT' t1 t2 t3 hR' hP' hbl' hkp hy1 hst hown hy1e hPl hkP hgd hsn ho1 hcv hcr hbW hsW hbl64 hS64 hbW0 hXW
      go_wp2_with fail
      refine HWR.out.mono ?_
      rintro e w7 ⟨rfl,T2,g2,c2,hT2,u1,u2,u3,u4,⟨u5,u6,u7⟩,cu2,u8a,u9⟩
      have hpl2:(yk.P.set k (p':Int)).length=j:=by rw[List.length_set,HPL.out]
      have HLN:Hid (LF w0 w (fun i=>F i\/i=gb) T gt gf gb x X nD j ⟨fo',putZ yk.put (p':Int) (blkB D k),yk.P.set k (p':Int)⟩ w7):=by
       have hwW:w.heap.size<=W.heap.size:=Nat.le_trans HKP.out.size HBW.out.size
       refine⟨⟨T2,some ⟨g2,0,none⟩,c2,hT2,fun r hr=>?_,fun r hr=>u2 r (HT2'.out r hr),fun hc=>?_,?_,?_,fun b hb=>?_⟩,?_⟩
       ·rcases u1 r hr with h1 | h1
        ·exact HT1.out r h1
        ·exact Or.inr (Nat.le_trans hwW h1)
       ·rcases u1 gb hc with h1 | h1
        ·exact HT3.out.1 h1
        ·have:=HT3.out.2
         have:=HBW.out.size
         omega
       ·have:=u4
        rw[show yk.P.length=j from HPL.out]at this
        exact this
       ·refine⟨by simp[ints,HPL.out],Or.inr ⟨g2,0,c2,by rw[hpl2],fun r u hr=>?_⟩⟩
        rw[Nat.zero_add,cell_of_row _ _ _ _ _ _ u8a,<-Array.getElem?_toList]
        have hrl:r<yk.P.length:=by
         have:=(List.getElem?_eq_some_iff.1 hr).1
         simpa[ints]using this
        have h3:(cu2.toList.take yk.P.length)[r]? = some u:=by rw[u9];exact hr
        rwa [List.getElem?_take,if_pos hrl]at h3
       ·injection hb with hb
        have hb':g2=b:=hb
        subst hb'
        exact⟨Nat.le_trans hwW u5,u6⟩
       ·refine (HKP.out.step (qab.of_below HBW.out)).trans u3 fun r hr=>?_
        rcases hr with hr | hr
        ·exact HT1.out r hr
        ·exact Or.inr (by rw[hr];exact hgw)
      clear hT2 u1 u2 u3 u4 u5 u6 u7 u8a u9 HWR HW hcp hmk
      go_wp2
      go_roundw
      case rel=>exact⟨k+1,_,by omega,by go_num,HY1,HLN⟩
      case measure=>simp[intOf];omega
     ·obtain rfl:k=j:=by omega
      obtain⟨⟨T',q',c',hT',t1,t2,t3,hR',hP',hbl'⟩,hkp⟩:=HLK.out
      have hyk:yk=y:=by
       have h1:=HYK.out
       rw[HY.out]at h1
       injection h1 with h1
       exact h1.symm
      subst hyk
      have hyl:yk.P.length=k:=by
       rw[(qgu HYK.out).1,List.length_append,List.length_replicate,Hm.out]
       omega
      have hnv:ybgq (fun r=>F r\/T' r) { X with P:=yk.P,s:=(nD:Int) } wr q' k c':=qwn hP' fun b hb _ hG=>by
       obtain⟨b1,b2⟩:=hbl' b hb
       rcases hG with hG | hG
       ·have:=HFF.out b hG;omega
       ·exact b2 hG
      have hTF:TxAt wr w0.heap.size F gt (.pointer (some ⟨gf,0,none⟩)) { x with fo:=yk.fo,put:=yk.put } T':=hT'.outer fun r _ hr=>Or.inl hr
      have HSE:=Lib.hid (qtc hTF i hi { X with P:=yk.P,s:=(nD:Int) } q' k c' hnv hdl)
      have HKP:Hid ((∀ r,T' r->T r\/w.heap.size<=r)/\qab T w wr/\∀ r,T r->T' r):=⟨t1,hkp,t2⟩
      obtain⟨z0,z1,z2,z3,z4,z5,z6,z7⟩:=qag hR'
      clear hT' t1 t2 t3 hP' hbl' hkp hnv hTF
      go_wp2_with fail
      refine HSE.out.mono ?_
      rintro e w7 ⟨rfl,T2,s1,s2,s3,s4⟩
      go_wp2
      trace_state
      refine⟨rfl,.tuple #[],(by simp[results,Tryz.results91,go_sem]),?_⟩
      rw[HnD.out]
      refine⟨rfl,T2,s1,fun r hr=>?_,HKP.out.2.1.trans s3 HKP.out.1,fun r hr=>s4 r (HKP.out.2.2 r hr)⟩
      rcases s2 r hr with h1 | h1
      ·exact HKP.out.1 r h1
      ·exact Or.inr (Nat.le_trans HKP.out.2.1.size h1)
end Go.Proofs.YtpoglnpjadmbpaaGreatDoor
