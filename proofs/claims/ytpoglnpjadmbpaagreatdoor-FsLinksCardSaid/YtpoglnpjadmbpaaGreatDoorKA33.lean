/- Part of the proofs of FsLinks: the texts CkOf, FsAt, TxAt. -/
import Derived.Test.YtpoglnpjadmbpaaGreatDoorKA29
import Derived.Test.YtpoglnpjadmbpaaGreatDoorKA32
set_option maxHeartbeats 16000000
set_option maxRecDepth 100000
namespace Go.Proofs.YtpoglnpjadmbpaaGreatDoor
open Go.RowKit
structure qlt (N : Nat -> List Int) (f : Fo) (k : Nat) : Prop where
 mark:N 0=qfv k
 load:qlv N f k
 quota:qjq (N 4)
 tree:∀ t,t<4->qbd f t=true->∃ L,qoa N f t k L
theorem of_raw {w:World} {r:Rdr} {N:Nat->List Int} {k:Nat} (h:RdAt w r N k) (hk:k<=256) (hk0:64<=k) (f:Fo) (hok:qlt N f k) (A:Array Value) (HA:Hid (A=encF f)):
  Calls Tryz.prog 11 #[.iface r.T r.u] w
   (fun e w'=>e=.returned (.slice none 0 0)/\Below w.heap.size w w'):=by
 have q1:=h.n1
 have q2:=h.m1
 have q3:=h.c1
 have q4:=h.n2
 have q5:=h.m2
 have q6:=h.c2
 have HR:=Lib.hid h
 have HOK:=Lib.hid hok
 clear h hok
 have HAS:Hid (A.size=192):=by rw[HA.out];exact qak f
 have HA1:Hid (A.all (·.oneCell')=true):=by rw[HA.out];exact qis f
 have HTH:Hid (∀ (t:Nat) (W:World),t<4->Calls Tryz.prog 38 #[.agg A,.int .i64 (t:Int)] W fun e w'=>e=.returned (.bool (qbd f t))/\Below W.heap.size W w'):=fun t W ht=>by rw[HA.out];exact qnt f t W ht
 obtain⟨Z0,HZ0⟩:∃ Z,Hid (Z=encF qiq):=⟨_,rfl⟩
 have HZ:Hid (∀ w,(zeroValue 80).run Tryz.prog w=.ok (.agg Z0) w):=by rw[HZ0.out];exact forZ
 have HZS:Hid (Z0.size=192):=by rw[HZ0.out];exact qak _
 have hmm:=@run_makeMap Tryz.prog
 have HMK:Hid (N 0=qfv k):=HOK.out.mark
 have HRD:=Lib.hid (HR.out.read w (Below.refl _ _) 0 (by omega))
 have HL0:=Lib.hid (HR.out.len 0 (by omega))
 go_enter Tryz.func11,Tryz.ntmps11
 go_wp2_with fail
 refine HRD.out.mono ?_
 rintro e w1 ⟨v1,rfl,hv1⟩
 have HB1:=Lib.hid hv1.below
 have HV1:=Lib.hid hv1.at
 obtain⟨g1,c1,cur1,hv1e,_⟩:=hv1
 rw[HL0.out]at hv1e
 subst hv1e
 have HS1:=Lib.hid (HR.out.size w1 HB1.out)
 clear HRD
 go_wp2_with fail
 refine HS1.out.mono ?_
 rintro e w2 ⟨rfl,hb2⟩
 have HB2:=Lib.hid (Below.step HB1.out hb2)
 have HV2:=Lib.hid (qai.below HV1.out hb2)
 clear hb2 HS1 HV1
 go_wp2_with fail
 refine (qwk k (by omega) w2).mono ?_
 rintro e w3 ⟨v3,rfl,hv3⟩
 have HB3:=Lib.hid (Below.step HB2.out hv3.below)
 have HV3:=Lib.hid (qai.below HV2.out hv3.below)
 have HM3:=Lib.hid hv3.at
 clear hv3 HV2
 go_wp2_with fail
 refine (qdy _ _ (N 0) (qfv k) w3 HV3.out HM3.out (by rw[HMK.out]) (by rw[HL0.out];omega)).mono ?_
 rw[show eqB (N 0) (qfv k)=true by unfold eqB;rw[HMK.out];simp]
 rintro e w4 ⟨rfl,hb4⟩
 have HB4:=Lib.hid (Below.step HB3.out hb4)
 have HS4:=Lib.hid (HR.out.size w4 HB4.out)
 clear hb4 HV3 HM3
 go_wp2_with fail
 refine HS4.out.mono ?_
 rintro e w5 ⟨rfl,hb5⟩
 have HB5:=Lib.hid (Below.step HB4.out hb5)
 have HLD:=Lib.hid (ybfi (HR.out.below HB5.out) (by omega) f HOK.out.load)
 rw[<-HA.out]at HLD
 have d1:decide ((k:Int)<64)=false:=decide_eq_false (by omega)
 have d2:¬ ((k:Int)<64):=by omega
 have d3:decide (k<64)=false:=decide_eq_false (by omega)
 clear hb5 HS4
 go_wp2_with fail
 refine HLD.out.mono ?_
 rintro e w6 ⟨rfl,hb6⟩
 have HB6:=Lib.hid (Below.step HB5.out hb6)
 clear hb6 HLD d1 d2 d3
 have HF7:Hid (((w6.alloc (.cells Z0 80)).setRow w6.heap.size A).heap[w6.heap.size]? = some (.cells A 80 (0,0))):=setRow_heap _ _ _ _ _ _ (heap_alloc_new _ _)
 have HB7:Hid (Below w6.heap.size w6 ((w6.alloc (.cells Z0 80)).setRow w6.heap.size A)):=Below.setRow ((Below.refl _ _).alloc (Nat.le_refl _) _) (Nat.le_refl _) _
 go_upto_region 7 with (first
  | (refine qbh rfl 80 rfl Z0 HZ.out ?_)
  | (refine wpList_store_row rfl 80 (.tmp 5) (.tmp 39) rfl w6.heap.size A rfl rfl 80 Z0 (heap_alloc_new _ _) (by rw[HAS.out];exact forI) (by rw[HZS.out,HAS.out]) HA1.out ?_))
 generalize (w6.alloc (.cells Z0 80)).setRow w6.heap.size A=w7 at *
 have HM8:Hid (MapL Tryz.prog 3 (w7.alloc (.map #[] 0)) w7.heap.size []):=MapL.made w7
 have HB8:Hid (Below w7.heap.size w7 (w7.alloc (.map #[] 0))):=(Below.refl _ _).alloc (Nat.le_refl _) _
 have HB78:Hid (Below w6.heap.size w6 (w7.alloc (.map #[] 0))):=Below.step HB7.out HB8.out
 have HBW8:Hid (Below w.heap.size w (w7.alloc (.map #[] 0))):=Below.step HB6.out HB78.out
 have HF8:Hid ((w7.alloc (.map #[] 0)).heap[w6.heap.size]? = some (.cells A 80 (0,0))):=qaa HB8.out HF7.out
 have HRD:=Lib.hid (HR.out.read (w7.alloc (.map #[] 0)) HBW8.out 4 (by omega))
 have HL4:=Lib.hid (HR.out.len 4 (by omega))
 have HY4:=Lib.hid (HR.out.byte 4 (by omega))
 have HG4:Hid (qjq (N 4)):=HOK.out.quota
 go_wp2_with fail
 obtain⟨mb,Hmb⟩:∃ x,Hid (w7.heap.size=x):=⟨_,rfl⟩
 rw[Hmb.out]at HM8 ⊢
 obtain⟨fb,Hfb⟩:∃ x,Hid (w6.heap.size=x):=⟨_,rfl⟩
 rw[Hfb.out]at HF8 ⊢
 generalize w7.alloc (.map #[] 0)=w8 at *
 refine HRD.out.mono ?_
 rintro e w9 ⟨v9,rfl,hv9⟩
 have HB9:=Lib.hid (Below.step HBW8.out hv9.below)
 have HV9:=Lib.hid hv9.at
 have HM9:=Lib.hid (HM8.out.of_block (hv9.below.block _ HM8.out.lt))
 have HF9:=Lib.hid (qaa hv9.below HF8.out)
 clear hv9 HRD HM8 HF8 HF7
 go_wp2_with fail
 refine (qte v9 (N 4) w9 HV9.out HY4.out (by rw[HL4.out];omega)).mono ?_
 rintro e w10 (⟨_,u,rfl,_,hb10⟩ | ⟨hng,_⟩)
 case inr=>exact absurd HG4.out hng
 have HB10:=Lib.hid (Below.step HB9.out hb10)
 have HM10:=Lib.hid (HM9.out.of_block (hb10.block _ HM9.out.lt))
 have HF10:=Lib.hid (qaa hb10 HF9.out)
 clear hb10 HM9 HF9 HV9
 go_wp2
 go_loopw [61] (fun i wr=>∃ t:Nat,t<=4/\i=.int .i64 t/\Hid (Below w.heap.size w wr)/\Hid (MapL Tryz.prog 3 wr mb [])/\Hid (wr.heap[fb]? = some (.cells A 80 (0,0)))) (fun i _=>4 - (intOf i).toNat)
 case atStart=>exact⟨0,by omega,rfl,HB10,HM10,HF10⟩
 case round=>
  clear HB10 HM10 HF10
  obtain⟨t,ht,rfl,HB,HM,HF⟩:=hrel
  by_cases htl:t<4
  ·have htl2:(t:Int)<4:=by omega
   have ht0:(0:Int)<=(t:Int):=by omega
   have HTt:=Lib.hid (fun W=>HTH.out t W htl)
   go_wp2_with (refine wpList_load_row rfl 80 (.tmp 5) rfl fb rfl 80 A (0,0) _ HF.out forT rfl (by rw[HAS.out];exact forI) ?_)
   refine (HTt.out wr).mono ?_
   cases hth:qbd f t with
   | true=>
    rintro e w11 ⟨rfl,hb11⟩
    have HB11:=Lib.hid (Below.step HB.out hb11)
    have HM11:=Lib.hid (HM.out.of_block (hb11.block _ HM.out.lt))
    have HF11:=Lib.hid (qaa hb11 HF.out)
    obtain⟨L,hL⟩:=HOK.out.tree t htl hth
    obtain⟨T,HT⟩:∃ T,Hid (T=encT f t):=⟨_,rfl⟩
    have HTS:Hid (T.size=48):=by rw[HT.out];exact qgs _ _
    have HTP:Hid (∀ j,j<T.size->A[t*48+j]? = T[j]?):=by rw[HT.out,HA.out];exact qsk f t htl
    have HON:=Lib.hid (ybyw (HR.out.below HB11.out) hk hk0 f t mb L hL)
    rw[<-HT.out]at HON
    clear hth hb11 HM HF HB hL HTt
    go_wp2_with (refine qar (by kernel_rfl) 78 (.tmp 69) rfl fb (t*48) rfl 80 A T (0,0) _ HF11.out HTP.out Tryz.underlying78 rfl (by rw[HTS.out];exact ybjp) ?_)
    refine HON.out.mono ?_
    rintro e w12 ⟨rfl,hb12⟩
    have HB12:=Lib.hid (Below.step HB11.out hb12)
    have HM12:=Lib.hid (HM11.out.of_block (hb12.block _ HM11.out.lt))
    have HF12:=Lib.hid (qaa hb12 HF11.out)
    clear hb12 HM11 HF11 HB11 HON
    go_wp2
    go_roundw
    case rel=>exact⟨t+1,by omega,by go_num,HB12,HM12,HF12⟩
    case measure=>simp[intOf];omega
   | false=>
    rintro e w11 ⟨rfl,hb11⟩
    have HB11:=Lib.hid (Below.step HB.out hb11)
    have HM11:=Lib.hid (HM.out.of_block (hb11.block _ HM.out.lt))
    have HF11:=Lib.hid (qaa hb11 HF.out)
    clear hth hb11 HM HF HB HTt
    go_wp2
    go_roundw
    case rel=>exact⟨t+1,by omega,by go_num,HB11,HM11,HF11⟩
    case measure=>simp[intOf];omega
  ·obtain rfl:t=4:=by omega
   have htl2:¬ ((4:Nat):Int)<4:=by omega
   go_wp2_with (first
    | (at_range;refine qfq _ rfl _ _ rfl 3 4 intT qpt mb [] rfl HM.out ?_;intro w13 hr13 hg13 hs13))
   have HB13:Hid (Below w.heap.size w w13):=Below.grown HB.out hg13 HB.out.size (fun q hq=>by cases hq)
   have HR13:Hid (qdr Tryz.prog 3 w13 mb wr.heap.size [] [] 0):=hr13
   clear hr13 hg13 hs13
   go_loopw [13] (fun o wq=>o=.slice none 0 0/\Hid (Below w.heap.size w wq)/\Hid (qdr Tryz.prog 3 wq mb wr.heap.size [] [] 0)) (fun _ _=>0)
   case atStart=>exact⟨rfl,HB13,HR13⟩
   case round=>
    obtain⟨rfl,HB14,HR14⟩:=hrel
    go_wp2_with (at_next;refine qgn _ rfl _ rfl 3 intT mb _ [] [] 0 rfl HR14.out (fun _=>?_) (fun x c w' cnt' hx hm=>absurd hm (by simp)))
    refine (ybut (.slice none 0 0) [] 0 wr (World.ownsRow_nil _ _ _ _) (by simp)).mono ?_
    rintro e w15 ⟨rfl,_,hg15⟩
    have HB15:Hid (Below w.heap.size w w15):=Below.grown HB14.out hg15 HB14.out.size (fun q hq=>by cases hq)
    clear hg15
    go_wp2
    go_ret
    exact⟨rfl,HB15.out⟩
theorem ybbh {w:World} {r:Rdr} {N:Nat->List Int} {k:Nat} (h:RdAt w r N k) (hk:k<=256) (hk0:64<=k) (f:Fo) (hok:qlt N f k):
  Calls Tryz.prog 11 #[.iface r.T r.u] w (fun e w'=>e=.returned (.slice none 0 0)/\Below w.heap.size w w'):=of_raw h hk hk0 f hok _ rfl
structure Fs where
 dk:Dk
 k:Nat
 sq:Int
 fo:Fo
 rows:List (Int × Int)
 nodes:List Pn
 todo:List (Int × List Int)
def logR (a:Addr) (sq:Int):Array Value:=#[.pointer (some a),.int .i64 5,.int .i64 32,.int .u32 sq]
def qkw (d lg:Value) (fo:Fo) (rv nv tv hv:Value) (i:Nat):Value:=
 if i=0 then d else if i=1 then lg else if i<194 then qdb fo ((i - 2) / 48) ((i - 2) % 48) else if i=194 then rv else if i=195 then nv else if i=196 then tv else hv
def fsR (d lg:Value) (fo:Fo) (rv nv tv hv:Value):Array Value:=Array.ofFn (n:=198) fun i=>qkw d lg fo rv nv tv hv i.val
theorem qgi (d lg:Value) (fo:Fo) (rv nv tv hv:Value):(fsR d lg fo rv nv tv hv).size=198:=by simp[fsR]
theorem qiu (d lg:Value) (fo:Fo) (rv nv tv hv:Value) (i:Nat) (h:i<198):(fsR d lg fo rv nv tv hv)[i]? = some (qkw d lg fo rv nv tv hv i):=by simp[fsR,h]
theorem ybma (d lg:Value) (fo:Fo) (rv nv tv hv:Value):∀ j,j<(encF fo).size->(fsR d lg fo rv nv tv hv)[2+j]? = (encF fo)[j]? :=fun j hj=>by
 rw[qak]at hj
 rw[qiu _ _ _ _ _ _ _ _ (by omega)]
 have:=qbz fo (j / 48) (j % 48) (by omega) (by omega)
 rw[show j / 48*48+j % 48=j by omega]at this
 rw[this]
 unfold qkw
 rw[if_neg (by omega),if_neg (by omega),if_pos (by omega),show 2+j - 2=j by omega]
def qas (w:World) (B:Nat) (pl:List (Int × Value)) (l:List (Int × List Int)):Prop:=
 pl.map (·.1)=l.map (·.1)/\∀ i (h:i<pl.length) (h':i<l.length),qet w B pl[i].2 l[i].2
structure FsAt (w : World) (gf : Nat) (s : Fs) (F : Nat -> Prop) (B : Nat) (a : Addr) : Prop where
 ex:∃ gl rv nv bt bh E tl FD,
  w.heap[gf]? = some (.cells (fsR (.pointer (some a)) (.pointer (some ⟨gl,0,none⟩)) s.fo rv nv (.map (some bt)) (.map (some bh))) 96 (0,0)) /\
  qaw w (.pointer (some a)) s.dk s.k FD/\(∀ i,FD i->F i)/\¬ FD gl/\w.heap[gl]? = some (.cells (logR a s.sq) 165 (0,0))/\F gl /\
  Out F w (fun w'=>qai w' rv 2 s.rows.length (qbw s.rows)) /\
  Out F w (fun w'=>qai w' nv 8 E.length (qax E))/\qbo F w E s.nodes /\
  MapL Tryz.prog 3 w bt tl/\qas w B tl s.todo/\F bt/\bt ≠ bh/\¬ FD bt /\
  MapL Tryz.prog 3 w bh []/\F bh/\¬ FD bh
 self:F gf
 len:s.nodes.length=32
 fin:∀ i,F i->i<w.heap.size
 old:∀ i,F i->i<B
 k0:64<=s.k
 k1:s.k<=256
 rows:s.rows.length<=20
theorem qgp {w w':World} {B:Nat} {v:Value} {D:List Int} (h:qet w B v D) (hk:∀ (g:Nat) (c:Array Value),B<=g->w.heap[g]? = some (.cells c 5 (0,0))->w'.heap[g]? = w.heap[g]?):qet w' B v D:=by
 obtain⟨g,cap,cur,h1,h2,h3,h4,h5,h6⟩:=h
 exact⟨g,cap,cur,h1,h2,h3,h4,(hk g _ h4 h5).trans h5,h6⟩
theorem qet.at {w:World} {B:Nat} {v:Value} {D:List Int} (h:qet w B v D):qaf w v D:=by
 obtain⟨g,cap,cur,rfl,h2,h3,h4,h5,h6⟩:=h
 exact qav h2 h5 h6
theorem qet.mono {w:World} {B B':Nat} {v:Value} {D:List Int} (h:qet w B v D) (hb:B'<=B):qet w B' v D:=by
 obtain⟨g,cap,cur,h1,h2,h3,h4,h5,h6⟩:=h
 exact⟨g,cap,cur,h1,h2,h3,by omega,h5,h6⟩
theorem qas.keep {w w':World} {B:Nat} {pl:List (Int × Value)} {l:List (Int × List Int)} (h:qas w B pl l) (hk:∀ (g:Nat) (c:Array Value),B<=g->w.heap[g]? = some (.cells c 5 (0,0))->w'.heap[g]? = w.heap[g]?):qas w' B pl l:=
 ⟨h.1,fun i h1 h2=>qgp (h.2 i h1 h2) hk⟩
theorem qas.len {w:World} {B:Nat} {pl:List (Int × Value)} {l:List (Int × List Int)} (h:qas w B pl l):pl.length=l.length:=by
 have:=congrArg List.length h.1
 simpa using this
theorem qas.nil (w:World) (B:Nat):qas w B [] []:=⟨rfl,fun i h=>by simp at h⟩
theorem qas.tail {w:World} {B:Nat} {x:Int × Value} {y:Int × List Int} {pl:List (Int × Value)} {l:List (Int × List Int)} (h:qas w B (x :: pl) (y :: l)):x.1=y.1/\qet w B x.2 y.2/\qas w B pl l:=by
 have h1:=h.1
 simp only[List.map_cons,List.cons.injEq]at h1
 refine⟨h1.1,h.2 0 (by simp) (by simp),h1.2,fun i a b=>?_⟩
 have:=h.2 (i+1) (by simpa using a) (by simpa using b)
 simpa using this
theorem qas.cons {w:World} {B:Nat} {x:Int × Value} {y:Int × List Int} {pl:List (Int × Value)} {l:List (Int × List Int)} (h1:x.1=y.1) (h2:qet w B x.2 y.2) (h3:qas w B pl l):qas w B (x :: pl) (y :: l):=by
 refine⟨by simp[h1,h3.1],fun i a b=>?_⟩
 cases i with
 | zero=>exact h2
 | succ i=>simpa using h3.2 i (by simpa using a) (by simpa using b)
theorem qas.get {w:World} {B:Nat} {k:Int}:∀ {pl:List (Int × Value)} {l:List (Int × List Int)},qas w B pl l->(getZ pl k=none/\getZ l k=none)\/∃ v D,getZ pl k=some v/\getZ l k=some D/\qet w B v D
 | [],[],_=>Or.inl ⟨rfl,rfl⟩
 | [],y :: l,h=>by have:=h.len;simp at this
 | x :: pl,[],h=>by have:=h.len;simp at this
 | x :: pl,y :: l,h=>by
  obtain⟨h1,h2,h3⟩:=h.tail
  unfold getZ
  by_cases hk:x.1=k
  ·rw[if_pos hk,if_pos (h1 ▸ hk)]
   exact Or.inr ⟨_,_,rfl,rfl,h2⟩
  ·rw[if_neg hk,if_neg (h1 ▸ hk)]
   exact qas.get h3
theorem qas.put {w:World} {B:Nat} {k:Int} {v:Value} {D:List Int} (hv:qet w B v D):∀ {pl:List (Int × Value)} {l:List (Int × List Int)},qas w B pl l->qas w B (putZ pl k v) (putZ l k D)
 | [],[],_=>qas.cons rfl hv (qas.nil _ _)
 | [],y :: l,h=>by have:=h.len;simp at this
 | x :: pl,[],h=>by have:=h.len;simp at this
 | x :: pl,y :: l,h=>by
  obtain⟨h1,h2,h3⟩:=h.tail
  unfold putZ
  rw[<-h1]
  split
  ·exact qas.cons rfl hv (qas.cons h1 h2 h3)
  ·split
   ·exact qas.cons rfl hv h3
   ·exact qas.cons h1 h2 (qas.put hv h3)
theorem FsAt.below {w w':World} {gf:Nat} {s:Fs} {F:Nat->Prop} {B:Nat} {a:Addr} (h:FsAt w gf s F B a) (hb:Below w.heap.size w w'):FsAt w' gf s F B a:=by
 obtain⟨⟨gl,rv,nv,bt,bh,E,tl,FD,h1,h2,h3,h4,h5,h6,h7,h8,h9,h10,h11,h12,h13,h14,h15,h16,h17⟩,a1,a2,a3,a4,a5,a6,a7⟩:=h
 exact⟨⟨gl,rv,nv,bt,bh,E,tl,FD,qaa hb h1,h2.below hb,h3,h4,qaa hb h5,h6,h7.below hb,h8.below hb,h9.keep (qab.of_below hb),h10.of_block (hb.block _ h10.lt),h11.keep (fun g c _ hc=>hb.block g (qac hc)),h12,h13,h14,h15.of_block (hb.block _ h15.lt),h16,h17⟩,
  a1,a2,fun i hi=>Nat.lt_of_lt_of_le (a3 i hi) hb.size,a4,a5,a6,a7⟩
structure Tx where
 fo:Fo
 rows:List (Int × Int)
 nodes:List Pn
 dirty:List (Int × Value)
 put:List (Int × List Int)
 gone:List Int
 full:Bool
 fake:Int
def qnv (fp:Value) (fo:Fo) (rv nv dv pv gv:Value) (full:Bool) (fake:Int) (i:Nat):Value:=
 if i=0 then fp else if i<193 then qdb fo ((i - 1) / 48) ((i - 1) % 48) else if i=193 then rv else if i=194 then nv else if i=195 then dv else if i=196 then pv else if i=197 then gv else if i=198 then .bool full else .int .i64 fake
def txR (fp:Value) (fo:Fo) (rv nv dv pv gv:Value) (full:Bool) (fake:Int):Array Value:=Array.ofFn (n:=200) fun i=>qnv fp fo rv nv dv pv gv full fake i.val
section
variable (fp : Value) (fo : Fo) (rv nv dv pv gv : Value) (full : Bool) (fake : Int)
theorem qgm : (txR fp fo rv nv dv pv gv full fake).size=200:=by simp[txR]
theorem qhd (i:Nat) (h:i<200):(txR fp fo rv nv dv pv gv full fake)[i]? = some (qnv fp fo rv nv dv pv gv full fake i):=by simp[txR,h]
theorem qtb : ∀ j,j<(encF fo).size->(txR fp fo rv nv dv pv gv full fake)[1+j]? = (encF fo)[j]? :=fun j hj=>by
 rw[qak]at hj
 rw[qhd _ _ _ _ _ _ _ _ _ _ (by omega)]
 have:=qbz fo (j / 48) (j % 48) (by omega) (by omega)
 rw[show j / 48*48+j % 48=j by omega]at this
 rw[this]
 unfold qnv
 rw[if_neg (by omega),if_pos (by omega),show 1+j - 1=j by omega]
theorem ybpr : ∀ j,j<(enc (fo.hs 0)).size->(txR fp fo rv nv dv pv gv full fake)[17+j]? = (enc (fo.hs 0))[j]? :=fun j hj=>by
 rw[qau]at hj
 have h1:=qtb fp fo rv nv dv pv gv full fake (16+j) (by rw[qak];omega)
 rw[show 1+(16+j)=17+j by omega]at h1
 rw[h1]
 have:=qnh fo 0 (by omega) j (by rw[qau];exact hj)
 simpa using this
def hasF (f:Fo) (s:Nat->Bool):Fo:=⟨f.nd,fun k=>if k=0 then s else f.hs k⟩
theorem qud (f:Fo) (s:Nat->Bool) (a j:Nat) (h:a ≠ 0\/j<16):qdb (hasF f s) a j=qdb f a j:=by
 unfold qdb hasF
 by_cases hj:j<16
 ·rw[if_pos hj,if_pos hj]
 ·rw[if_neg hj,if_neg hj]
  rcases h with h | h
  ·simp[h]
  ·exact absurd h hj
theorem qvg (s:Nat->Bool):((txR fp fo rv nv dv pv gv full fake).toList.take 17++(enc s).toList++(txR fp fo rv nv dv pv gv full fake).toList.drop (17+(enc s).size)).toArray=txR fp (hasF fo s) rv nv dv pv gv full fake:=by
 apply Array.ext_getElem?
 intro i
 have hs:(enc s).toList.length=32:=by simpa using qau s
 have hl:(txR fp fo rv nv dv pv gv full fake).toList.length=200:=by simpa using qgm fp fo rv nv dv pv gv full fake
 have hg:∀ j,(txR fp fo rv nv dv pv gv full fake).toList[j]? = (txR fp fo rv nv dv pv gv full fake)[j]? :=fun j=>Array.getElem?_toList
 rw[List.getElem?_toArray,qau]
 by_cases h1:i<17
 ·rw[List.append_assoc,List.getElem?_append_left (by rw[List.length_take,hl];omega),List.getElem?_take,if_pos h1,hg,qhd _ _ _ _ _ _ _ _ _ _ (by omega),qhd _ _ _ _ _ _ _ _ _ _ (by omega)]
  unfold qnv
  by_cases h0:i=0
  ·rw[if_pos h0,if_pos h0]
  ·rw[if_neg h0,if_neg h0,if_pos (by omega),if_pos (by omega),qud _ _ _ _ (Or.inr (by omega))]
 ·by_cases h2:i<49
  ·rw[List.append_assoc,List.getElem?_append_right (by rw[List.length_take,hl];omega),List.getElem?_append_left (by rw[List.length_take,hl,hs];omega),List.length_take,hl,qhd _ _ _ _ _ _ _ _ _ _ (by omega),Array.getElem?_toList,qdh _ _ (by omega)]
   unfold qnv
   rw[if_neg (by omega),if_pos (by omega)]
   unfold qdb hasF
   rw[if_neg (by omega),show (i - 1) / 48=0 by omega,show min 17 200=17 by omega,show (i - 1) % 48 - 16=i - 17 by omega]
   rfl
  ·rw[List.append_assoc,List.getElem?_append_right (by rw[List.length_take,hl];omega),List.getElem?_append_right (by rw[List.length_take,hl,hs];omega),List.getElem?_drop,List.length_take,hl,hs,hg]
   rw[show 17+32+(i - min 17 200 - 32)=i by omega]
   by_cases h3:i<200
   ·rw[qhd _ _ _ _ _ _ _ _ _ _ h3,qhd _ _ _ _ _ _ _ _ _ _ h3]
    unfold qnv
    have h0:¬ i=0:=by omega
    rw[if_neg h0,if_neg h0]
    by_cases h4:i<193
    ·rw[if_pos h4,if_pos h4,qud _ _ _ _ (Or.inl (by omega))]
    ·rw[if_neg h4,if_neg h4]
   ·rw[Array.getElem?_eq_none (by rw[qgm];omega),Array.getElem?_eq_none (by rw[qgm];omega)]
theorem ybzu (i:Nat) (_h:193<=i) (u:Value) (hi:i<200):(txR fp fo rv nv dv pv gv full fake).setIfInBounds i u=Array.ofFn (n:=200) fun j=>if j.val=i then u else qnv fp fo rv nv dv pv gv full fake j.val:=by
 apply Array.ext_getElem?
 intro j
 rw[Array.getElem?_setIfInBounds,qgm]
 by_cases hj:i=j
 ·rw[if_pos hj,if_pos (by omega)]
  subst hj
  simp[hi]
 ·rw[if_neg hj]
  by_cases hj2:j<200
  ·rw[qhd _ _ _ _ _ _ _ _ _ _ hj2]
   simp[hj2,Ne.symm hj]
  ·rw[Array.getElem?_eq_none (by rw[qgm];omega),Array.getElem?_eq_none (by simp;omega)]
end
theorem ybgg (fp:Value) (fo:Fo) (rv nv dv pv gv:Value) (full:Bool) (fake:Int) (u:Value):(txR fp fo rv nv dv pv gv full fake).setIfInBounds 197 u=txR fp fo rv nv dv pv u full fake:=by
 rw[ybzu _ _ _ _ _ _ _ _ _ 197 (by omega) u (by omega)]
 unfold txR
 congr 1
 funext j
 unfold qnv
 by_cases h:j.val=197
 ·simp[h]
 ·simp[h]
structure TxAt (w : World) (B : Nat) (F : Nat -> Prop) (gt : Nat) (fp : Value) (x : Tx) (T : Nat -> Prop) : Prop where
 ex:∃ rv gn cn gd gp gv E pl,
  w.heap[gt]? = some (.cells (txR fp x.fo rv (.slice (some ⟨gn,0,none⟩) 32 cn) (.map (some gd)) (.map (some gp)) gv x.full x.fake) 114 (0,0)) /\
  Out (fun i=>F i\/T i) w (fun w'=>qai w' rv 2 x.rows.length (qbw x.rows)) /\
  w.ownsRow B 103 8 (.slice (some ⟨gn,0,none⟩) 32 cn) 32 (qax E)/\qbo (fun i=>F i\/T i) w E x.nodes /\
  MapL Tryz.prog 3 w gd x.dirty /\
  MapL Tryz.prog 3 w gp pl/\qas w B pl x.put/\gd ≠ gp /\
  w.ownsRow B 3 1 gv x.gone.length (ints x.gone) /\
  T gn/\T gd/\T gp/\(∀ b,gv.ownBlock=some b->T b)
 self:T gt
 len:x.nodes.length=32
 fin:∀ i,T i->i<w.heap.size
 new:∀ i,T i->B<=i
 gone:x.gone.length<=1000
 put:x.put.length<=1000
 dirty:x.dirty.length<=1000
 rows:x.rows.length<=20
 fake:0<=x.fake/\x.fake<=1000000
def qbg (B:Nat) (F:Nat->Prop) (gt:Nat) (fp:Value) (x':Tx) (T:Nat->Prop) (w w':World):Prop:=
 ∃ T',TxAt w' B F gt fp x' T'/\(∀ i,T' i->T i\/w.heap.size<=i)/\qab T w w'/\∀ i,T i->T' i
theorem ybak {w w':World} {F T T':Nat->Prop} {φ:World->Prop} (h:Out (fun i=>F i\/T i) w φ) (hk:qab T w w') (hT:∀ i,T' i->T i\/w.heap.size<=i):Out (fun i=>F i\/T' i) w' φ:=fun w2 k2=>
 h w2 ((hk.mono (F1:=fun i=>F i\/T i) (fun i _ hi=>Or.inr hi)).trans k2 fun i hi=>by
  rcases hi with hi | hi
  ·exact Or.inl (Or.inl hi)
  ·rcases hT i hi with hi | hi
   ·exact Or.inl (Or.inr hi)
   ·exact Or.inr hi)
theorem ybjs {w w':World} {F T T':Nat->Prop} {E:List Nd} {L:List Pn} (h:qbo (fun i=>F i\/T i) w E L) (hk:qab T w w') (hT:∀ i,T' i->T i\/w.heap.size<=i):qbo (fun i=>F i\/T' i) w' E L:=
 ⟨h.1,fun i h1 h2=>by
  obtain⟨e1,e2,e3,e4,e5,e6,e7,e8⟩:=h.2 i h1 h2
  exact⟨e1,e2,e3,e4,e5,e6,e7,ybak e8 hk hT⟩⟩
theorem TxAt.below {w w':World} {B:Nat} {F:Nat->Prop} {gt:Nat} {fp:Value} {x:Tx} {T:Nat->Prop} (h:TxAt w B F gt fp x T) (hb:Below w.heap.size w w'):TxAt w' B F gt fp x T:=by
 obtain⟨⟨rv,gn,cn,gd,gp,gv,E,pl,h1,h2,h3,h4,h5,h6,h7,h8,h9,h10,h11,h12,h13⟩,a1,a2,a3,a4,a5,a6,a7,a8,a9⟩:=h
 exact⟨⟨rv,gn,cn,gd,gp,gv,E,pl,qaa hb h1,h2.below hb,qap h3 hb,h4.keep (qab.of_below hb),h5.of_block (hb.block _ h5.lt),h6.of_block (hb.block _ h6.lt),h7.keep (fun g c _ hc=>hb.block g (qac hc)),h8,qap h9 hb,h10,h11,h12,h13⟩,
  a1,a2,fun i hi=>Nat.lt_of_lt_of_le (a3 i hi) hb.size,a4,a5,a6,a7,a8,a9⟩
theorem qbg.below {w w1 w':World} {B:Nat} {F:Nat->Prop} {gt:Nat} {fp:Value} {x:Tx} {T:Nat->Prop} (h:qbg B F gt fp x T w w1) (hb:Below w1.heap.size w1 w'):qbg B F gt fp x T w w':=by
 obtain⟨T',h1,h2,h3,h4⟩:=h
 exact⟨T',h1.below hb,h2,h3.step (qab.of_below hb),h4⟩
theorem qbg.same {w w':World} {B:Nat} {F:Nat->Prop} {gt:Nat} {fp:Value} {x:Tx} {T:Nat->Prop} (h:TxAt w B F gt fp x T) (hb:Below w.heap.size w w'):qbg B F gt fp x T w w':=⟨T,h.below hb,fun _ hi=>Or.inl hi,qab.of_below hb,fun _ hi=>hi⟩
theorem qbg.trans {w w1 w2:World} {B:Nat} {F:Nat->Prop} {gt:Nat} {fp:Value} {x y:Tx} {T:Nat->Prop} (h:qbg B F gt fp x T w w1) (k:∀ T1,TxAt w1 B F gt fp x T1->qbg B F gt fp y T1 w1 w2):qbg B F gt fp y T w w2:=by
 obtain⟨T1,h1,h2,h3,h4⟩:=h
 obtain⟨T2,k1,k2,k3,k4⟩:=k T1 h1
 refine⟨T2,k1,fun i hi=>?_,h3.trans k3 h2,fun i hi=>k4 i (h4 i hi)⟩
 rcases k2 i hi with hi | hi
 ·exact h2 i hi
 ·exact Or.inr (Nat.le_trans h3.size hi)
theorem qaj {P:Program} {K:TypeId} {w:World} {g b:Nat} {c:Array Value} {t:TypeId} {fr:Nat × Nat} {l:List (Int × Value)} (h:w.heap[g]? = some (.cells c t fr)) (hm:MapL P K w b l):g ≠ b:=by
 rintro rfl
 obtain⟨⟨es,clock,h2,_⟩,_⟩:=hm
 rw[h]at h2
 injection h2 with h2
 cases h2
structure qbp (w : World) (B : Nat) (F T : Nat -> Prop) (gt : Nat) (fp : Value) (x : Tx) (rv : Value) (gn cn gd gp : Nat) (gv : Value) (E : List Nd) (pl : List (Int × Value)) : Prop where
 row:w.heap[gt]? = some (.cells (txR fp x.fo rv (.slice (some ⟨gn,0,none⟩) 32 cn) (.map (some gd)) (.map (some gp)) gv x.full x.fake) 114 (0,0))
 rows:Out (fun i=>F i\/T i) w (fun w'=>qai w' rv 2 x.rows.length (qbw x.rows))
 own:w.ownsRow B 103 8 (.slice (some ⟨gn,0,none⟩) 32 cn) 32 (qax E)
 nds:qbo (fun i=>F i\/T i) w E x.nodes
 dirt:MapL Tryz.prog 3 w gd x.dirty
 puts:MapL Tryz.prog 3 w gp pl
 secs:qas w B pl x.put
 ne:gd ≠ gp
 gone:w.ownsRow B 3 1 gv x.gone.length (ints x.gone)
 tn:T gn
 td:T gd
 tp:T gp
 tg:∀ b,gv.ownBlock=some b->T b
theorem TxAt.lies {w:World} {B:Nat} {F:Nat->Prop} {gt:Nat} {fp:Value} {x:Tx} {T:Nat->Prop} (h:TxAt w B F gt fp x T):∃ rv gn cn gd gp gv E pl,qbp w B F T gt fp x rv gn cn gd gp gv E pl:=by
 obtain⟨rv,gn,cn,gd,gp,gv,E,pl,h1,h2,h3,h4,h5,h6,h7,h8,h9,h10,h11,h12,h13⟩:=h.ex
 exact⟨rv,gn,cn,gd,gp,gv,E,pl,h1,h2,h3,h4,h5,h6,h7,h8,h9,h10,h11,h12,h13⟩
theorem qbp.block {w:World} {B:Nat} {F T:Nat->Prop} {gt:Nat} {fp:Value} {x:Tx} {rv:Value} {gn cn gd gp:Nat} {gv:Value} {E:List Nd} {pl:List (Int × Value)} (h:qbp w B F T gt fp x rv gn cn gd gp gv E pl):
  ∃ cur,w.heap[gn]? = some (.cells cur 103 (0,0))/\cur.size=cn*8/\32<=cn/\cn<=maxLen/\cur.toList.take 256=qax E/\B<=gn:=by
 obtain⟨_,⟨hv,_⟩ | ⟨g,c,cur,hv,h1,h2,h3,h4,h5,h6⟩⟩:=id h.own
 ·cases hv
 injection hv with e1 _ e2
 injection e1 with e1
 injection e1 with e1
 subst e1 e2
 exact⟨cur,h2,h5,h3,h4,h6,h1⟩
theorem qbp.below {w w':World} {B:Nat} {F T:Nat->Prop} {gt:Nat} {fp:Value} {x:Tx} {rv:Value} {gn cn gd gp:Nat} {gv:Value} {E:List Nd} {pl:List (Int × Value)} (h:qbp w B F T gt fp x rv gn cn gd gp gv E pl) (hb:Below w.heap.size w w'):qbp w' B F T gt fp x rv gn cn gd gp gv E pl:=
 ⟨qaa hb h.row,h.rows.below hb,qap h.own hb,h.nds.keep (qab.of_below hb),h.dirt.of_block (hb.block _ h.dirt.lt),h.puts.of_block (hb.block _ h.puts.lt),h.secs.keep (fun g _c _ hc=>hb.block g (qac hc)),h.ne,qap h.gone hb,h.tn,h.td,h.tp,h.tg⟩
theorem qbp.at {w:World} {B:Nat} {F T:Nat->Prop} {gt:Nat} {fp:Value} {x:Tx} {rv:Value} {gn cn gd gp:Nat} {gv:Value} {E:List Nd} {pl:List (Int × Value)} (h:qbp w B F T gt fp x rv gn cn gd gp gv E pl) (hself:T gt) (hlen:x.nodes.length=32) (hfin:∀ i,T i->i<w.heap.size) (hnew:∀ i,T i->B<=i)
  (b1:x.gone.length<=1000) (b2:x.put.length<=1000) (b3:x.dirty.length<=1000) (b4:x.rows.length<=20) (b5:0<=x.fake/\x.fake<=1000000):TxAt w B F gt fp x T:=
 ⟨⟨rv,gn,cn,gd,gp,gv,E,pl,h.row,h.rows,h.own,h.nds,h.dirt,h.puts,h.secs,h.ne,h.gone,h.tn,h.td,h.tp,h.tg⟩,hself,hlen,hfin,hnew,b1,b2,b3,b4,b5⟩
theorem qbg.old {w0 w w':World} {F:Nat->Prop} {gt:Nat} {fp:Value} {x y:Tx} {T:Nat->Prop} (h:qbg w0.heap.size F gt fp x T w w') (hb:Below w0.heap.size w0 w) (ht:TxAt w w0.heap.size F gt fp y T):Below w0.heap.size w0 w':=by
 obtain⟨T1,h1,h2,h3,h4⟩:=h
 exact hb.trans (h3.to_below ht.new hb.size)
theorem TxAt.outer {w:World} {B:Nat} {F F':Nat->Prop} {gt:Nat} {fp:Value} {x:Tx} {T:Nat->Prop} (h:TxAt w B F gt fp x T) (hF:∀ i,i<w.heap.size->F' i->F i):TxAt w B F' gt fp x T:=by
 obtain⟨rv,gn,cn,gd,gp,gv,E,pl,hl⟩:=h.lies
 have hout:∀ i,i<w.heap.size->(F' i\/T i)->(F i\/T i):=fun i hi hg=>hg.imp (hF i hi) id
 exact qbp.at (rv:=rv) (gn:=gn) (cn:=cn) (gd:=gd) (gp:=gp) (gv:=gv) (E:=E) (pl:=pl) ⟨hl.row,hl.rows.grow hout,hl.own,hl.nds.grow hout,hl.dirt,hl.puts,hl.secs,hl.ne,hl.gone,hl.tn,hl.td,hl.tp,hl.tg⟩ h.self h.len h.fin h.new h.gone h.put h.dirty h.rows h.fake
theorem TxAt.grow {w w':World} {B:Nat} {F:Nat->Prop} {gt:Nat} {fp:Value} {x:Tx} {T:Nat->Prop} (h:TxAt w B F gt fp x T) (hb:Below w.heap.size w w') (g:Nat) (h1:w.heap.size<=g):TxAt w' B (fun i=>F i\/i=g) gt fp x T:=
 (h.outer (F':=fun i=>F i\/i=g) (fun i hi hg=>by
  rcases hg with hg | hg
  ·exact hg
  ·omega)).below hb
theorem TxAt.local {w w':World} {B:Nat} {F:Nat->Prop} {gt:Nat} {fp:Value} {x:Tx} {T:Nat->Prop} (h:TxAt w B F gt fp x T) {g:Nat} (hF:F g) (hgT:¬ T g) {c:Array Value} {t:TypeId} (hr:w.heap[g]? = some (.cells c t (0,0))) (ht:t ≠ 5) (hk:qab (fun i=>i=g) w w'):TxAt w' B F gt fp x T:=by
 obtain⟨rv,gn,cn,gd,gp,gv,E,pl,hl⟩:=h.lies
 have hb:∀ b,b<w.heap.size->b ≠ g->w'.heap[b]? = w.heap[b]? :=fun b h1 h2=>hk.block b h1 h2
 have hT:∀ b,T b->b ≠ g:=fun b hb hc=>hgT (hc ▸ hb)
 have hkO:qab (fun i=>F i\/T i) w w':=hk.mono fun i _ hi=>Or.inl (hi ▸ hF)
 refine qbp.at (rv:=rv) (gn:=gn) (cn:=cn) (gd:=gd) (gp:=gp) (gv:=gv) (E:=E) (pl:=pl) ⟨(hb gt (qac hl.row) (hT gt h.self)).trans hl.row,hl.rows.keep hkO,?_,hl.nds.keep hkO,?_,?_,?_,hl.ne,?_,hl.tn,hl.td,hl.tp,hl.tg⟩ h.self h.len (fun i hi=>Nat.lt_of_lt_of_le (h.fin i hi) hk.size) h.new h.gone h.put h.dirty h.rows h.fake
 ·exact qbi hl.own fun b hb2=>hb b (hl.own.lt b hb2).2 (by injection hb2 with hb2;rw[<-hb2];exact hT gn hl.tn)
 ·exact hl.dirt.of_block (hb gd hl.dirt.lt (hT gd hl.td))
 ·exact hl.puts.of_block (hb gp hl.puts.lt (hT gp hl.tp))
 ·exact hl.secs.keep fun g' cc _ hc'=>hb g' (qac hc') (qam hc' hr (Ne.symm ht))
 ·exact qbi hl.gone fun b hb2=>hb b (hl.gone.lt b hb2).2 (hT b (hl.tg b hb2))
end Go.Proofs.YtpoglnpjadmbpaaGreatDoor
