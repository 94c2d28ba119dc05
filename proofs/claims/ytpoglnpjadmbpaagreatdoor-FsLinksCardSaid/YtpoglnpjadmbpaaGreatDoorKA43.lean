/- Part of the proofs of FsLinks: the texts FsB, FsC. -/
import Derived.Test.YtpoglnpjadmbpaaGreatDoorKA42
set_option maxHeartbeats 16000000
set_option maxRecDepth 100000
namespace Go.Proofs.YtpoglnpjadmbpaaGreatDoor
open Go.RowKit
structure ybkg (s : Fs) (name : ByteArray) (mode user group : Int) (X : Pn) (D D' : List Int) (y : Fw) (p0 : Nat) : Prop where
 hX:s.nodes[0]? = some X
 hk:X.k=2
 hl:0<X.l
 hP:qgd X.P s.k
 hPl:X.P.length<=8
 hs:0<=X.s/\X.s<=64*(X.P.length:Int)
 hnm:qjs name=true
 hD:qbc (secE s) X.P X.s=D
 hDB:qco D
 hok:qcn D=true
 hfd:(qee D name).2.2=4
 hz:∃ Z,s.nodes[1]? = some Z/\Z.k=0
 hput:qho D (name,2)=0
 hD':layD (outD D++[(name,2)])=D'
 hD5:D'.length<=512
 hg:X.P.length<=(D'.length+63) / 64
 hn:qbm s.fo
 hy:qcx s.k D' ⟨s.fo,[],X.P++List.replicate ((D'.length+63) / 64 - X.P.length) 0⟩ ((D'.length+63) / 64)=some y
 hrows:s.rows=[]
 hp0:y.fo.nd 0 0=(p0:Int)
 hp1:0<p0
 hp2:p0<256
 hny:qbm y.fo
 hr0:qdt { X with P:=y.P,s:=(D'.length:Int) }=0
 hr1:qdt (newN mode user group)=0
 hl0:(qbf { X with P:=y.P,s:=(D'.length:Int) }).length=32
 hl1:(qbf (newN mode user group)).length=32
 hr:qbn (qeu (qie s X (newN mode user group) D' y) { X with P:=y.P,s:=(D'.length:Int) } (newN mode user group)).fo=0
 hlen:s.todo.length+y.put.length<=24
def ybfj (s:Fs) (mode user group:Int) (X:Pn) (D':List Int) (y:Fw):Fs:=qhs s (qeu (qie s X (newN mode user group) D' y) { X with P:=y.P,s:=(D'.length:Int) } (newN mode user group))
theorem ybmd {w:World} {gf:Nat} {s:Fs} {F:Nat->Prop} {B:Nat} {a:Addr} (h:FsAt w gf s F B a) (hB:B<=w.heap.size) {name:ByteArray} {mode user group:Int} {X:Pn} {D D':List Int} {y:Fw} {p0:Nat} (hm:ybkg s name mode user group X D D' y p0)
  (hmo:0<=mode/\mode<=511) (hu:0<=user/\user<=255) (hgr:0<=group/\group<=255):
  Calls Tryz.prog 15 #[.pointer (some ⟨gf,0,none⟩),.int .i64 1,.string name,.int .i64 1,.int .i64 mode,.int .i64 user,.int .i64 group] w
   (fun e w'=>e=.returned (.tuple #[.int .i64 2,.int .i64 0])/\FsAt w' gf (ybfj s mode user group X D' y) F B a/\qab F w w'):=by
 have HA:=Lib.hid (fs_add h hB X hm.hX hm.hk hm.hl hm.hP hm.hPl hm.hs name hm.hnm D hm.hD hm.hDB hm.hok hm.hfd hm.hz mode user group D' hm.hput hm.hD' hm.hD5 hm.hg hm.hn y hm.hy hm.hrows p0 hm.hp0 hm.hp1 hm.hp2 hm.hny _ rfl hm.hr0 hm.hr1 hm.hl0 hm.hl1 hm.hr hm.hlen)
 have HW:=Lib.hid (fs_who user group hu hgr w)
 obtain⟨m0,m1⟩:=hmo
 have d1:decide (mode<0)=false:=decide_eq_false (by omega)
 have d2:decide (511<mode)=false:=decide_eq_false (by omega)
 have d3:¬ mode<0:=by omega
 have d4:¬ 511<mode:=by omega
 clear h hm hu hgr
 go_enter Tryz.func15,Tryz.ntmps15
 go_wp2_with fail
 refine HW.out.mono ?_
 rintro e w1 ⟨rfl,rfl⟩
 go_wp2_with fail
 refine HA.out.mono ?_
 rintro e w8 ⟨rfl,h8,k8⟩
 have H8:=Lib.hid h8
 have HK8:=Lib.hid k8
 clear h8 k8
 go_wp2
 go_ret2
 exact⟨rfl,H8.out,HK8.out⟩
def qfb (old Dt:List Int) (p k:Nat):Nat->List Int
 | 0=>old
 | i+1=>if p<=64*k+i/\64*k+i<p+Dt.length then (qfb old Dt p k i).set i (Dt.getD (64*k+i - p) 0) else qfb old Dt p k i
theorem qhw (old Dt:List Int) (p k:Nat):∀ i,(qfb old Dt p k i).length=old.length
 | 0=>rfl
 | i+1=>by
  unfold qfb
  split
  ·rw[List.length_set];exact qhw old Dt p k i
  ·exact qhw old Dt p k i
def fwrE (s:Fs) (x:Tx) (Dt:List Int) (p k0:Nat) (st:Fw):Nat->Option Fw
 | 0=>some st
 | j+1=>(fwrE s x Dt p k0 st j).bind fun y=>(ownE y.fo s.k (y.P.getD (k0+j) 0)).map fun q=>⟨q.2,putZ y.put (q.1:Int) (qfb (qdw { x with fo:=y.fo,put:=y.put } s y.P (k0+j)) Dt p (k0+j) 64),y.P.set (k0+j) (q.1:Int)⟩
theorem qqc {s:Fs} {x:Tx} {Dt:List Int} {p k0:Nat} {st:Fw}:∀ {i:Nat} {y:Fw},fwrE s x Dt p k0 st i=some y->y.P.length=st.P.length/\y.put.length<=st.put.length+i
 | 0,y,h=>by simp only[fwrE,Option.some.injEq]at h;subst h;exact⟨rfl,Nat.le_refl _⟩
 | i+1,y,h=>by
  unfold fwrE at h
  cases h1:fwrE s x Dt p k0 st i with
  | none=>rw[h1]at h;cases h
  | some z=>
   rw[h1]at h
   simp only[Option.bind_some]at h
   cases h2:ownE z.fo s.k (z.P.getD (k0+i) 0) with
   | none=>rw[h2]at h;cases h
   | some q=>
    rw[h2]at h
    simp only[Option.map_some,Option.some.injEq]at h
    subst h
    obtain⟨a,b⟩:=qqc h1
    refine⟨by simpa using a,?_⟩
    have:=qdo (q.1:Int) (qfb (qdw { x with fo:=z.fo,put:=z.put } s z.P (k0+i)) Dt p (k0+i) 64) z.put
    show (putZ z.put (q.1:Int) _).length<=_
    omega
theorem yboa {f:Fo} {k:Nat} {p:Int} {q:Nat × Fo} (h:ownE f k p=some q) (hs:qbm f):qbm q.2:=by
 unfold ownE at h
 split at h
 ·cases hf:qto f k with
  | none=>rw[hf]at h;cases h
  | some n=>rw[hf]at h;simp only[Option.map_some,Option.some.injEq]at h;subst h;exact hs.use n
 ·split at h
  ·simp only[Option.some.injEq]at h;subst h;exact hs
  ·cases h
theorem qyl {s:Fs} {x:Tx} {Dt:List Int} {p k0:Nat} {st:Fw} (hs:qbm st.fo):∀ {i:Nat} {y:Fw},fwrE s x Dt p k0 st i=some y->qbm y.fo
 | 0,y,h=>by simp only[fwrE,Option.some.injEq]at h;subst h;exact hs
 | i+1,y,h=>by
  unfold fwrE at h
  cases h1:fwrE s x Dt p k0 st i with
  | none=>rw[h1]at h;cases h
  | some z=>
   rw[h1]at h
   simp only[Option.bind_some]at h
   cases h2:ownE z.fo s.k (z.P.getD (k0+i) 0) with
   | none=>rw[h2]at h;cases h
   | some q=>
    rw[h2]at h
    simp only[Option.map_some,Option.some.injEq]at h
    subst h
    exact yboa h2 (qyl hs h1)
theorem ybce {s:Fs} {x:Tx} {Dt:List Int} {p k0:Nat} {st:Fw} {n:Nat} {y:Fw} (h:fwrE s x Dt p k0 st n=some y):∀ i,i<=n->∃ z,fwrE s x Dt p k0 st i=some z:=by
 induction n generalizing y with
 | zero=>
  intro i hi
  obtain rfl:i=0:=by omega
  exact⟨_,h⟩
 | succ n ih=>
  intro i hi
  by_cases he:i=n+1
  ·subst he;exact⟨_,h⟩
  ·unfold fwrE at h
   cases h1:fwrE s x Dt p k0 st n with
   | none=>rw[h1]at h;cases h
   | some z=>exact ih h1 i (by omega)
theorem ybey {s:Fs} {x:Tx} {Dt:List Int} {p k0:Nat} {st:Fw} (hp:qgd st.P s.k):∀ {i:Nat} {y:Fw},fwrE s x Dt p k0 st i=some y->qgd y.P s.k
 | 0,y,h=>by simp only[fwrE,Option.some.injEq]at h;subst h;exact hp
 | i+1,y,h=>by
  unfold fwrE at h
  cases h1:fwrE s x Dt p k0 st i with
  | none=>rw[h1]at h;cases h
  | some z=>
   rw[h1]at h
   simp only[Option.bind_some]at h
   cases h2:ownE z.fo s.k (z.P.getD (k0+i) 0) with
   | none=>rw[h2]at h;cases h
   | some q=>
    rw[h2]at h
    simp only[Option.map_some,Option.some.injEq]at h
    subst h
    have hz:=ybey hp h1
    intro r hr
    rcases List.mem_or_eq_of_mem_set hr with hr | rfl
    ·exact hz r hr
    ·unfold ownE at h2
     split at h2
     ·cases hf:qto z.fo s.k with
      | none=>rw[hf]at h2;cases h2
      | some n=>
       rw[hf]at h2
       simp only[Option.map_some,Option.some.injEq]at h2
       subst h2
       have:=(ybeu hf).2.1
       show (0:Int)<=(n:Int)/\(n:Int)<(s.k:Int)
       omega
     ·next h0=>
      split at h2
      ·simp only[Option.some.injEq]at h2
       subst h2
       by_cases hi:k0+i<z.P.length
       ·have h3:=hz _ (List.getElem_mem hi)
        have e:z.P.getD (k0+i) 0=z.P[k0+i]:=by rw[List.getD_eq_getElem?_getD,List.getElem?_eq_getElem hi];rfl
        show (0:Int)<=((z.P.getD (k0+i) 0).toNat:Int)/\_
        rw[e]
        omega
       ·exact absurd (by rw[List.getD_eq_getElem?_getD,List.getElem?_eq_none (by omega)];rfl) h0
      ·cases h2
theorem ybgr {w:World} {B:Nat} {F F1 T:Nat->Prop} {gt gf:Nat} {fp:Value} {x:Tx} {s:Fs} {a:Addr} {B0:Nat} (h:TxAt w B F gt fp x T) (hf:FsAt w gf s F1 B0 a) (P:List Int) (k:Nat) (hP:qgd P s.k):(qdw x s P k).length=64:=by
 unfold qdw
 split
 ·simp
 ·next h0=>
  by_cases hk:k<P.length
  ·have e:P.getD k 0=P[k]:=by rw[List.getD_eq_getElem?_getD,List.getElem?_eq_getElem hk];rfl
   have:=hP _ (List.getElem_mem hk)
   rw[e]
   exact ybgb h hf _ (by omega)
  ·exact absurd (by rw[List.getD_eq_getElem?_getD,List.getElem?_eq_none (by omega)];rfl) h0
theorem ybzq (cur:Array Value) (D:List Int) (n i:Nat) (x:Int) (ht:cur.toList.take n=u8s D) (_hi:i<n):(cur.setIfInBounds i (.int .u8 x)).toList.take n=u8s (D.set i x):=by
 rw[Array.toList_setIfInBounds,List.take_set,ht]
 simp[u8s,List.map_set]
def qhf (s:Fs) (X1:Pn) (y:Fw):Tx:=⟨y.fo,s.rows,s.nodes.set 1 X1,[(2,.bool true)],y.put,[],false,256⟩
structure WA (w3 : World) (gb : Nat) (X : Pn) (Pj : List Int) (q : Option Addr) (j c : Nat) (wq : World) : Prop where
 row:wq.heap[gb]? = some (.cells #[.int .i64 X.k,.int .i64 X.m,.int .i64 X.u,.int .i64 X.g,.int .i64 X.s,.int .i64 X.l,.int .i64 X.up,.slice q j c] 103 (0,0))
 own:wq.ownsRow w3.heap.size 3 1 (.slice q j c) j (ints Pj)
 bel:qab (fun i=>i=gb) w3 wq
theorem ybew {w:World} {gf:Nat} {s:Fs} {F:Nat->Prop} {B:Nat} {a:Addr} (h:FsAt w gf s F B a) (hB:B<=w.heap.size) (X:Pn) (hX:s.nodes[1]? = some X) (hk:X.k=1) (hP:qgd X.P s.k) (hPl:X.P.length<=8) (sN:Nat) (hs:X.s=(sN:Int)) (_hs5:sN<=512)
  (p:Nat) (v:Value) (Dt:List Int) (hv:qbk w v Dt) (hv0:0<Dt.length) (hpd:p+Dt.length<=512) (hn:qbm s.fo) (y:Fw)
  (hy:fwrE s (tx0 s) Dt p (p / 64) ⟨s.fo,[],X.P++List.replicate ((p+Dt.length+63) / 64 - X.P.length) 0⟩ ((p+Dt.length - 1) / 64+1 - p / 64)=some y)
  (hrows:s.rows=[]) (p0:Nat) (hp0:y.fo.nd 0 0=(p0:Int)) (hp1:0<p0) (hp2:p0<256) (hny:qbm y.fo) (X0:Pn) (hX0:s.nodes[0]? = some X0) (X1:Pn) (hX1:X1={ X with P:=y.P,s:=((max sN (p+Dt.length):Nat):Int) }) (hr0:qdt X0=0) (hr1:qdt X1=0) (hl0:(qbf X0).length=32) (hl1:(qbf X1).length=32)
  (hr:qbn (qeu (qhf s X1 y) X0 X1).fo=0) (hlen:s.todo.length+y.put.length<=24):
  Calls Tryz.prog 16 #[.pointer (some ⟨gf,0,none⟩),.int .i64 2,.int .i64 (p:Int),v] w
   (fun e w'=>e=.returned (.tuple #[.int .i64 (Dt.length:Int),.int .i64 0])/\FsAt w' gf (qhs s (qeu (qhf s X1 y) X0 X1)) F B a/\qab F w w'):=by
 have H:=Lib.hid h
 have hHF:=ybcc h 1 (by omega) X hX
 rw[hk,if_neg (by omega),if_pos rfl]at hHF
 have HFI:Hid (Calls Tryz.prog 47 #[.pointer (some ⟨gf,0,none⟩),.int .i64 2] w (fun e w'=>e=.returned (.int .i64 0)/\w=w')):=hHF
 have HBG:=Lib.hid (qmn h)
 obtain⟨L,HL⟩:∃ n,Hid (Dt.length=n):=⟨_,rfl⟩
 obtain⟨vp,vc,hvs⟩:=qcq hv.1 L HL.out
 subst hvs
 obtain⟨_,⟨h0,_⟩ | ⟨gv,ov,cv,hvv,hcv⟩⟩:=id hv.1
 ·omega
 injection hvv with e1 e2 e3
 subst e1 e3
 clear e2
 have hvw:gv<w.heap.size:=block_lt_of_cell (hcv 0 _ (qcj Dt 0 (by omega)))
 have HDT:Hid (∀ (j:Nat) (hj:j<Dt.length),w.cell? ⟨gv,ov+j,none⟩=some (.int .u8 Dt[j])):=fun j hj=>hcv j _ (qcj Dt j hj)
 obtain⟨K,HK⟩:∃ K,Hid ((p+Dt.length+63) / 64=K):=⟨_,rfl⟩
 have HBK:Hid (∀ W:World,Calls Tryz.prog 50 #[.int .i64 ((p:Int)+(L:Int))] W fun e w'=>e=.returned (.int .i64 (K:Int))/\W=w'):=fun W=>by
  have:=qhx ((p:Int)+(L:Int)) W (by have:=HL.out;omega) (by have:=HL.out;omega)
  have e:qcc ((p:Int)+(L:Int))=(K:Int):=by unfold qcc;rw[<-HK.out,<-HL.out];split <;> omega
  rw[e]at this
  exact this
 rw[HK.out,HL.out]at hy
 rw[HL.out]at hv0 hpd hX1 ⊢
 have hK8:K<=8:=by rw[<-HK.out,HL.out];omega
 obtain⟨k0,Hk0⟩:∃ k,Hid (p / 64=k):=⟨_,rfl⟩
 obtain⟨k1,Hk1⟩:∃ k,Hid ((p+L - 1) / 64=k):=⟨_,rfl⟩
 rw[Hk0.out,Hk1.out]at hy
 have HKK:Hid (k0<=k1/\k1<K):=by constructor <;> (have h1:=Hk0.out;have h2:=Hk1.out;have h3:=HK.out;rw[HL.out]at h3;omega)
 have HY:=Lib.hid hy
 have HND:=Lib.hid (fun (W:World) (gt:Nat) (T:Nat->Prop) (hT:TxAt W w.heap.size F gt (.pointer (some ⟨gf,0,none⟩)) (tx0 s) T)=>qkh hT 1 (by omega) X hX)
 have HNS:=Lib.hid hn
 have HPI:=Lib.hid hP
 have HBW:=Lib.hid hB
 have hlen32:=h.len
 have HEND:Hid (∀ (W:World) (gt:Nat) (T:Nat->Prop),Below w.heap.size w W->TxAt W w.heap.size F gt (.pointer (some ⟨gf,0,none⟩)) (qhf s X1 y) T ->
   Calls Tryz.prog 54 #[.pointer (some ⟨gt,0,none⟩)] W
    (fun e w'=>e=.returned (.int .i64 0)/\FsAt w' gf (qhs s (qeu (qhf s X1 y) X0 X1)) F B a/\qab F w w')):=fun W gt T hW hT=>by
  refine ybgi h hW hT (fun _ hi=>hi) hrows rfl hny p0 hp0 hp1 hp2 false true rfl rfl rfl (fun k h1 h2=>?_) X0 X1 ?_ ?_ hr0 hr1 hl0 hl1 (fun p hp=>by cases hp) hr (by show qda s.rows=0;rw[hrows];rfl) hB (by have:=h.k0;omega) hlen
  ·constructor
   ·show getZ [((2:Int),Value.bool true)] _=none
    unfold getZ;rw[if_neg (by omega)];rfl
   ·show getZ [((2:Int),Value.bool true)] _=none
    unfold getZ;rw[if_neg (by omega)];rfl
  ·show (s.nodes.set 1 _)[0]? = _
   rw[List.getElem?_set_ne (by omega)];exact hX0
  ·show (s.nodes.set 1 _)[1]? = _
   rw[List.getElem?_set_self (by omega)]
 have HX1:=Lib.hid hX1
 have p1:decide ((p:Int)<0)=false:=decide_eq_false (by omega)
 have p2:¬ ((p:Int)<0):=by omega
 have p3:decide ((512:Int)<(L:Int))=false:=decide_eq_false (by omega)
 have p4:¬ ((512:Int)<(L:Int)):=by omega
 have p5:IntKind.i64.wrap (512 - (L:Int))=512 - (L:Int):=IntWalk.i64_in _ (by omega)
 have p6:decide (512 - (L:Int)<(p:Int))=false:=decide_eq_false (by omega)
 have p7:¬ (512 - (L:Int)<(p:Int)):=by omega
 have p8:((L:Int) == 0)=false:=by simp;omega
 have p9:¬ L=0:=by omega
 have pE:IntKind.i64.wrap ((p:Int)+(L:Int))=(p:Int)+(L:Int):=IntWalk.i64_in _ (by omega)
 have HKX:=Lib.hid hk
 have HSX:=Lib.hid hs
 clear hk hs h hHF hB hX hP hv hn hy hrows hp0 hp1 hp2 hny hX0 hX1 hr0 hr1 hl0 hl1 hr hlen hcv hlen32
 go_enter Tryz.func16,Tryz.ntmps16
 go_wp2_with fail
 refine HFI.out.mono ?_
 rintro e w1 ⟨rfl,rfl⟩
 go_wp2_with fail
 refine HBG.out.mono ?_
 rintro e w1 ⟨gt,T,rfl,hb1,hT⟩
 have HB1:=Lib.hid hb1
 have HT1:=Lib.hid hT
 have HND1:=Lib.hid (HND.out w1 gt T hT)
 clear hb1 hT
 go_wp2_with fail
 refine HND1.out.mono ?_
 rintro e w2 ⟨q,n,c,rfl,hnv,hb2⟩
 have HB2:=Lib.hid hb2
 have HNV:=Lib.hid hnv
 clear hb2 hnv
 obtain⟨gb,Hgb⟩:∃ x,Hid (w2.heap.size=x):=⟨_,rfl⟩
 have HB3:Hid (Below w1.heap.size w1 (w2.alloc (.cells #[.int .i64 X.k,.int .i64 X.m,.int .i64 X.u,.int .i64 X.g,.int .i64 X.s,.int .i64 X.l,.int .i64 X.up,.slice q n c] 103))):=HB2.out.alloc HB2.out.size _
 have HR3:Hid ((w2.alloc (.cells #[.int .i64 X.k,.int .i64 X.m,.int .i64 X.u,.int .i64 X.g,.int .i64 X.s,.int .i64 X.l,.int .i64 X.up,.slice q n c] 103)).heap[gb]? = some (.cells #[.int .i64 X.k,.int .i64 X.m,.int .i64 X.u,.int .i64 X.g,.int .i64 X.s,.int .i64 X.l,.int .i64 X.up,.slice q n c] 103 (0,0))):=by rw[<-Hgb.out];exact heap_alloc_new _ _
 have HP3:Hid (qao (w2.alloc (.cells #[.int .i64 X.k,.int .i64 X.m,.int .i64 X.u,.int .i64 X.g,.int .i64 X.s,.int .i64 X.l,.int .i64 X.up,.slice q n c] 103)) (.slice q n c) X.P):=qai.below HNV.out.now ((Below.refl _ _).alloc (Nat.le_refl _) _)
 have hgw:w1.heap.size<=gb:=by rw[<-Hgb.out];exact HB2.out.size
 have HGW:=Lib.hid hgw
 have HT3:Hid (TxAt (w2.alloc (.cells #[.int .i64 X.k,.int .i64 X.m,.int .i64 X.u,.int .i64 X.g,.int .i64 X.s,.int .i64 X.l,.int .i64 X.up,.slice q n c] 103)) w.heap.size (fun i=>F i\/i=gb) gt (.pointer (some ⟨gf,0,none⟩)) (tx0 s) T):=HT1.out.grow HB3.out gb hgw
 have c7:(w2.alloc (.cells #[.int .i64 X.k,.int .i64 X.m,.int .i64 X.u,.int .i64 X.g,.int .i64 X.s,.int .i64 X.l,.int .i64 X.up,.slice q n c] 103)).cell? ⟨w2.heap.size,7,none⟩=some (.slice q n c):=(qag (heap_alloc_new _ _)).2.2.2.2.2.2.2
 go_wp2_with fail
 rw[Hgb.out]
 rw[Hgb.out]at c7
 generalize (w2.alloc (.cells #[.int .i64 X.k,.int .i64 X.m,.int .i64 X.u,.int .i64 X.g,.int .i64 X.s,.int .i64 X.l,.int .i64 X.up,.slice q n c] 103))=w3 at *
 refine (qgh (.slice q n c) X.P w3 HP3.out (by omega)).mono ?_
 rintro e w4 ⟨v4,rfl,hO4,hb4,_⟩
 obtain⟨q4,c4,hv4,_⟩:=qat hO4
 subst hv4
 obtain⟨m,Hm⟩:∃ m,Hid (X.P.length=m):=⟨_,rfl⟩
 rw[Hm.out]at hO4 hPl ⊢
 have HR4:=Lib.hid (qaa hb4 HR3.out)
 have HT4:=Lib.hid (HT3.out.below hb4)
 have z7:w4.frozen? ⟨gb,7,none⟩=false:=frozen_of_row _ _ _ _ _ HR4.out
 have c7':w4.cell? ⟨gb,7,none⟩=some (.slice q n c):=(qag HR4.out).2.2.2.2.2.2.2
 have HB4:Hid (Below w1.heap.size w1 w4):=Below.step HB3.out hb4
 have HO4:=Lib.hid hO4
 have HB34:=Lib.hid hb4
 have HG3:Hid (gb<w3.heap.size/\¬ T gb):=⟨qac HR3.out,fun hc=>by have:=HT1.out.fin gb hc;have:=HGW.out;omega⟩
 clear hO4 hb4 c7
 have HWA0:Hid (WA w3 gb X X.P q4 m c4 (w4.setCell ⟨gb,7,none⟩ (.slice q4 m c4))):=by
  have hk7:qab (fun i=>i=gb) w4 (w4.setCell ⟨gb,7,none⟩ (.slice q4 m c4)):=qab.setCell (F:=fun i=>i=gb) (p:=⟨gb,7,none⟩) rfl _
  refine⟨heap_setCell_same _ _ 7 _ _ _ HR4.out,qbi HO4.out fun b hb=>hk7.block b (HO4.out.lt b hb).2 (fun hc=>?_),?_⟩
  ·have h1:=(HO4.out.lt b hb).1
   rw[hc]at h1
   have:=HG3.out.1
   omega
  ·exact (qab.of_below HB34.out).step hk7
 generalize HW5:w4.setCell ⟨gb,7,none⟩ (.slice q4 m c4)=w5 at *
 go_wp2
 go_loopw [55] (fun _ wq=>∃ (j:Nat) (q':Option Addr) (c':Nat),m<=j/\j<=max m K/\Hid (WA w3 gb X (X.P++List.replicate (j - m) 0) q' j c' wq)) (fun _ wq=>100 - lenV ((wq.cell? ⟨gb,7,none⟩).getD undef))
 case atStart=>exact⟨m,q4,c4,Nat.le_refl _,by omega,by rw[Nat.sub_self,List.replicate_zero,List.append_nil];exact HWA0⟩
 case round=>
  obtain⟨j,qj,cj,hj1,hj2,HWJ⟩:=hrel
  have k7:=cell_regrown (qag HWJ.out.row).2.2.2.2.2.2.2
  go_wp2_with fail
  refine wp_region_quiet_below (by kernel_rfl) (by kernel_rfl) ?_
  repeat (first
   | go_big_quiet_skip
   | (refine qeo 50 #[.tmp 58] #[3] rfl rfl (fun _ _=>by kernel_rfl) #[.int .i64 ((p:Int)+(L:Int))] (by kernel_rfl) (.int .i64 (K:Int)) (fun _ _=>qff) (fun w' _=>(HBK.out w').mono fun e w2 ⟨he,hw2⟩=>⟨he,hw2 ▸ Below.refl _ _⟩) ?_;simp only[Act.put,List.setIfInBounds_toArray,List.set_cons_zero,List.set_cons_succ])
   | (go_big_quiet_want;go_big_quiet_op;go_big_quiet_on))
  refine wpQuiet_nil ?_
  intro wz hwz
  have HBZ:=Lib.hid (qcd hwz)
  have HWZ:Hid (WA w3 gb X (X.P++List.replicate (j - m) 0) qj j cj wz):=⟨qaa HBZ.out HWJ.out.row,qap HWJ.out.own HBZ.out,HWJ.out.bel.step (qab.of_below HBZ.out)⟩
  obtain⟨cz0,cz1,cz2,cz3,cz4,cz5,cz6,cz7⟩:=qag HWZ.out.row
  have HC7:=Lib.hid (qag HWJ.out.row).2.2.2.2.2.2.2
  clear k7 hwz HWJ HBZ
  have HGZ:Hid (gb<wz.heap.size):=qac HWZ.out.row
  by_cases hjK:j<K
  ·have hjK2:(j:Int)<(K:Int):=by omega
   obtain⟨i0,hi0,hz0,hz1,hz2⟩:=info_parts qiv
   have HI0:=Lib.hid hi0
   have HIZ:=Lib.hid hz0
   have HI1:=Lib.hid hz1
   have HI2:=Lib.hid hz2
   clear hi0 hz0 hz1 hz2
   have hjm:(ints (X.P++List.replicate (j - m) 0))++[Value.int .i64 0]=ints (X.P++List.replicate (j+1 - m) 0):=by
    rw[show j+1 - m=(j - m)+1 by omega,List.replicate_succ',<-List.append_assoc]
    simp[ints]
   have HJM:=Lib.hid hjm
   have HOA:=Lib.hid (fun o=>qap HWZ.out.own ((Below.refl wz.heap.size wz).alloc (Nat.le_refl _) o))
   have HSX2:Hid (w3.heap.size<=wz.heap.size):=HWZ.out.bel.size
   have HGO:Hid (∀ b,(Value.slice qj j cj).ownBlock=some b->w3.heap.size<=b):=fun b hb=>(HWZ.out.own.lt b hb).1
   have HGR:Hid (∀ (w6:World) (o:Obj),(wz.alloc o).grownBy w6 (Value.slice qj j cj).ownBlock->w6.heap[gb]? = some (.cells #[.int .i64 X.k,.int .i64 X.m,.int .i64 X.u,.int .i64 X.g,.int .i64 X.s,.int .i64 X.l,.int .i64 X.up,.slice qj j cj] 103 (0,0))/\qab (fun i=>i=gb) w3 w6):=fun w6 o hg=>by
    refine⟨?_,?_⟩
    ·rw[hg.block gb (by have:=HGZ.out;simp;omega) (fun hc=>by have:=HGO.out gb hc.symm;have:=HG3.out.1;omega),heap_alloc_old wz o HGZ.out]
     exact HWZ.out.row
    ·exact (HWZ.out.bel.step (qab.of_below ((Below.refl _ _).alloc (Nat.le_refl _) o))).trans (qab.grown (F:=fun r=>w3.heap.size<=r) hg (fun r hr=>HGO.out r hr)) (fun i hi=>Or.inr hi)
   clear hjm
   go_wp2_with (at_builtin;refine wpList_append_own _ rfl _ _ 32 rfl w3.heap.size 3 i0 (.int .i64 0) 1 8 qpe HI0.out HIZ.out HI1.out HI2.out rfl (by decide) _ _ _ rfl (HOA.out _) ⟨wz.heap.size,0,none⟩ 1 1 [.int .i64 0] rfl rfl (World.news_of_block (cs:=#[.int .i64 0]) (t:=3) (fr:=(0,0)) (heap_alloc_new wz _)) (by simp[Value.oneCell']) (by unfold maxLen;omega) (by omega) (by have:=HSX2.out;simp;omega) ?_;intro v5 w6 hown hgrow _;obtain⟨q5,c5,rfl,_⟩:=qat hown;have HR6:=Lib.hid (HGR.out w6 _ hgrow);have z6:w6.frozen? ⟨gb,7,none⟩=false:=frozen_of_row _ _ _ _ _ HR6.out.1;have c6:w6.cell? ⟨gb,7,none⟩=some (.slice qj j cj):=(qag HR6.out.1).2.2.2.2.2.2.2;have HO6:Hid (w6.ownsRow w3.heap.size 3 1 (.slice q5 (j+1) c5) (j+1) (ints (X.P++List.replicate (j+1 - m) 0))):=(by show _;rw[<-HJM.out];exact hown);clear hown hgrow)
   have HWN:Hid (WA w3 gb X (X.P++List.replicate (j+1 - m) 0) q5 (j+1) c5 (w6.setCell ⟨gb,7,none⟩ (.slice q5 (j+1) c5))):=by
    have hk7:qab (fun i=>i=gb) w6 (w6.setCell ⟨gb,7,none⟩ (.slice q5 (j+1) c5)):=qab.setCell (F:=fun i=>i=gb) (p:=⟨gb,7,none⟩) rfl _
    refine⟨heap_setCell_same _ _ 7 _ _ _ HR6.out.1,qbi HO6.out fun b hb=>hk7.block b (HO6.out.lt b hb).2 (fun hc=>?_),HR6.out.2.step hk7⟩
    have h1:=(HO6.out.lt b hb).1
    rw[hc]at h1
    have:=HG3.out.1
    omega
   clear cz0 cz1 cz2 cz3 cz4 cz5 cz6 cz7
   go_wp2
   go_roundw
   case rel=>exact⟨j+1,q5,c5,by omega,by omega,HWN⟩
   case measure=>
    rw[(qag HWN.out.row).2.2.2.2.2.2.2,HC7.out]
    simp[lenV]
    omega
  ·have hjK2:¬ (j:Int)<(K:Int):=by omega
   rw[HSX.out]at cz4
   obtain⟨nD,HnD⟩:∃ n,Hid (max sN (p+L)=n):=⟨_,rfl⟩
   have hmx:max (sN:Int) ((p:Int)+(L:Int))=(nD:Int):=by have:=HnD.out;omega
   have zz4:wz.frozen? ⟨gb,4,none⟩=false:=frozen_of_row _ _ _ _ _ HWZ.out.row
   go_wp2
   obtain⟨n1,Hn1⟩:∃ n,Hid (k1+1 - k0=n):=⟨_,rfl⟩
   have hjM:K - m=j - m:=by omega
   have HY2:Hid (fwrE s (tx0 s) Dt p k0 ⟨s.fo,[],X.P++List.replicate (j - m) 0⟩ n1=some y):=by
    have h1:=HY.out
    rw[Hm.out,hjM,Hn1.out]at h1
    exact h1
   have HP1:Hid ((X.P++List.replicate (j - m) 0).length=j):=by show _=_;rw[List.length_append,List.length_replicate,Hm.out];omega
   have HPI1:Hid (qgd (X.P++List.replicate (j - m) 0) s.k):=by
    intro r hr
    rcases List.mem_append.1 hr with hr | hr
    ·exact HPI.out r hr
    ·have:=List.eq_of_mem_replicate hr
     have:=H.out.k0
     omega
   have hj8:j<=8:=by omega
   have hKj:K<=j:=by omega
   have HLF0:Hid (LF w w1 (fun i=>F i\/i=gb) T gt gf gb (tx0 s) X nD j ⟨s.fo,[],X.P++List.replicate (j - m) 0⟩ (wz.setCell ⟨gb,4,none⟩ (.int .i64 (nD:Int)))):=by
    have hk8:qab (fun i=>i=gb) wz (wz.setCell ⟨gb,4,none⟩ (.int .i64 (nD:Int))):=qab.setCell (F:=fun i=>i=gb) (p:=⟨gb,4,none⟩) rfl _
    have hk9:=HWZ.out.bel.step hk8
    refine⟨⟨T,qj,cj,HT3.out.local (Or.inr rfl) HG3.out.2 HR3.out (by decide) hk9,fun _ hi=>Or.inl hi,fun _ hi=>hi,HG3.out.2,heap_setCell_same _ _ 4 _ _ _ HWZ.out.row,?_,fun b hb=>?_⟩,(qab.of_below HB3.out).trans hk9 fun i hi=>Or.inr (by rw[hi];exact HGW.out)⟩
    ·have h1:qao wz (.slice qj j cj) (X.P++List.replicate (j - m) 0):=by
      have:=qai.of_owns HWZ.out.own
      unfold qao
      rw[HP1.out]
      exact this
     exact qja h1 fun b hb hl=>hk8.block b hl (fun hc=>by
      have h2:=(HWZ.out.own.lt b hb).1
      rw[hc]at h2
      have:=HG3.out.1
      omega)
    ·have h2:=(HWZ.out.own.lt b hb).1
     exact⟨Nat.le_trans HB3.out.size h2,fun hc=>by have:=HT1.out.fin b hc;have:=HB3.out.size;omega⟩
   clear cz0 cz1 cz2 cz3 cz4 cz5 cz6 cz7 zz4
   generalize wz.setCell ⟨gb,4,none⟩ (.int .i64 (nD:Int))=w8 at *
   go_loopw [14] (fun kv wq=>∃ (r:Nat) (yr:Fw),r<=n1/\kv=.int .i64 ((k0+r:Nat):Int)/\Hid (fwrE s (tx0 s) Dt p k0 ⟨s.fo,[],X.P++List.replicate (j - m) 0⟩ r=some yr)/\Hid (LF w w1 (fun i=>F i\/i=gb) T gt gf gb (tx0 s) X nD j yr wq)) (fun kv _=>100 - (intOf kv).toNat)
   case atStart=>exact⟨0,_,Nat.zero_le _,congrArg (Value.int .i64) (by have:=Hk0.out;omega),rfl,HLF0⟩
   case round=>
    obtain⟨wr0,HWR0⟩:∃ x,x=wr:=⟨_,rfl⟩
    obtain⟨r,yr,hrn,rfl,HYR,HLR⟩:=hrel
    obtain⟨kk,Hkk⟩:∃ n,Hid (k0+r=n):=⟨_,rfl⟩
    rw[Hkk.out]
    have iE:IntKind.i64.wrap ((p:Int)+(L:Int) - 1)=(p:Int)+(L:Int) - 1:=IntWalk.i64_in _ (by omega)
    by_cases hrl:r<n1
    ·have hkk8:kk<8:=by have h1:=Hkk.out;have h2:=Hn1.out;have h3:=HKK.out;omega
     have hkle:(kk:Int)<=((p:Int)+(L:Int) - 1) / 64:=by have h1:=Hkk.out;have h2:=Hn1.out;have h3:=Hk1.out;omega
     have hkled:decide ((kk:Int)<=((p:Int)+(L:Int) - 1) / 64)=true:=decide_eq_true hkle
     obtain⟨⟨T',q',c',hT',t1,t2,t3,hR',hP',hbl'⟩,hkp⟩:=HLR.out
     obtain⟨y1,hy1⟩:=ybce HY2.out (r+1) (by omega)
     have hst:=hy1
     unfold fwrE at hst
     rw[HYR.out,Option.bind_some]at hst
     obtain⟨⟨p',fo'⟩,hown,hy1e⟩:=Option.map_eq_some_iff.1 hst
     have hPlr:yr.P.length=j:=by rw[(qqc HYR.out).1];exact HP1.out
     have hkP:kk<yr.P.length:=by have h1:=HKK.out;have h2:=Hkk.out;have h3:=Hn1.out;omega
     rw[Hkk.out]at hown hy1e
     have hgd:yr.P.getD kk 0=yr.P[kk]:=by rw[List.getD_eq_getElem?_getD,List.getElem?_eq_getElem hkP];rfl
     rw[hgd]at hown
     have hsn:qbm yr.fo:=qyl HNS.out HYR.out
     obtain⟨ho1,hp256,_⟩:=ybcz (x:={ tx0 s with fo:=yr.fo,put:=yr.put }) (s:=s) hown hsn H.out.k1
     have hPr:qgd yr.P s.k:=ybey HPI1.out HYR.out
     have hbwr:Below w.heap.size w wr:=HB1.out.trans (hkp.to_below HT1.out.new HB1.out.size)
     have hfr:=H.out.below hbwr
     have HBL:=Lib.hid (ybgh hT' hfr { X with P:=yr.P,s:=(nD:Int) } q' j c' hP' kk hkk8 hPr (by rw[hPlr];exact hj8))
     have HBLL:Hid ((qdw { tx0 s with fo:=yr.fo,put:=yr.put } s yr.P kk).length=64):=ybgr hT' hfr yr.P kk hPr
     obtain⟨D0,HD0⟩:∃ D,Hid (qdw { tx0 s with fo:=yr.fo,put:=yr.put } s yr.P kk=D):=⟨_,rfl⟩
     rw[show (({ X with P:=yr.P,s:=(nD:Int) }:Pn).P)=yr.P from rfl]at HBL
     rw[HD0.out]at HBL HBLL hy1e
     obtain⟨r0,r1,r2,r3,r4,r5,r6,r7⟩:=qag hR'
     have HTR:=Lib.hid hT'
     have HRR:=Lib.hid hR'
     have HPR:=Lib.hid hP'
     have HBLK:=Lib.hid hbl'
     have HT12:Hid ((∀ i,T' i->T i\/w1.heap.size<=i)/\(∀ i,T i->T' i)/\¬ T' gb):=⟨t1,t2,t3⟩
     have HKP:=Lib.hid hkp
     have HBWR:=Lib.hid hbwr
     have HO1:=Lib.hid ho1
     have HY1:Hid (fwrE s (tx0 s) Dt p k0 ⟨s.fo,[],X.P++List.replicate (j - m) 0⟩ (r+1)=some ⟨fo',putZ yr.put (p':Int) (qfb D0 Dt p kk 64),yr.P.set kk (p':Int)⟩):=by
      show _=_
      rw[hy1,<-hy1e]
     have HPUT:Hid (yr.put.length<900):=by
      have h1:=(qqc HYR.out).2
      have h2:=Hn1.out
      have h3:=HKK.out
      show yr.put.length<900
      have h4:yr.put.length<=0+r:=h1
      omega
     clear hT' t1 t2 t3 hR' hP' hbl' hkp hy1 hst hown hy1e hgd hsn ho1 hPr hbwr hfr
     go_wp2_with fail
     refine HBL.out.mono ?_
     rintro e w9 ⟨v9,rfl,g,cap,cur,hvg,hg9,hh9,ht9,hb9⟩
     rw[HBLL.out]at hvg ht9 hg9
     subst hvg
     have HG9:Hid (wr.heap.size<=g/\64<=cap):=hg9
     have HH9:=Lib.hid hh9
     have HT9:=Lib.hid ht9
     have HB9:=Lib.hid hb9
     rw[<-HWR0]at HB9 HG9 HTR HRR HPR HKP HBWR
     clear hg9 hh9 ht9 hb9 r0 r1 r2 r3 r4 r5 r6 r7
     go_wp2
     go_loopw [86] (fun iv wq=>∃ (i:Nat) (cu:Array Value),i<=64/\iv=.int .i64 i/\Hid (wq.heap[g]? = some (.cells cu 5 (0,0))/\cu.toList.take 64=u8s (qfb D0 Dt p kk i)/\cu.size=cur.size)/\Hid (Below wr0.heap.size wr0 wq)) (fun iv _=>64 - (intOf iv).toNat)
     case atStart=>exact⟨0,cur,by omega,rfl,⟨HH9.out,HT9.out,rfl⟩,HB9.out⟩
     case round=>
      obtain⟨i,cu,hi64,rfl,HCU,HBQ⟩:=hrel
      have i1:IntKind.i64.wrap (64*(kk:Int))=64*(kk:Int):=IntWalk.i64_in _ (by omega)
      have i2:IntKind.i64.wrap (64*(kk:Int)+(i:Int))=64*(kk:Int)+(i:Int):=IntWalk.i64_in _ (by omega)
      by_cases hil:i<64
      ·have hil2:(i:Int)<64:=by omega
       have hcs:i<cu.size:=by
        have h1:=congrArg List.length HCU.out.2.1
        rw[List.length_take,qal,qhw,HBLL.out,Array.length_toList]at h1
        omega
       by_cases hpi:p<=64*kk+i/\64*kk+i<p+L
       ·obtain⟨hp1',hp2'⟩:=hpi
        have e1:decide ((p:Int)<=64*(kk:Int)+(i:Int))=true:=decide_eq_true (by omega)
        have e2:(p:Int)<=64*(kk:Int)+(i:Int):=by omega
        have e3:decide (64*(kk:Int)+(i:Int)<(p:Int)+(L:Int))=true:=decide_eq_true (by omega)
        have e4:64*(kk:Int)+(i:Int)<(p:Int)+(L:Int):=by omega
        obtain⟨r',Hr'⟩:∃ r',Hid (64*kk+i - p=r'):=⟨_,rfl⟩
        have hrL:r'<L:=by have:=Hr'.out;omega
        have hrD:r'<Dt.length:=by rw[HL.out];exact hrL
        have i3:IntKind.i64.wrap (64*(kk:Int)+(i:Int) - (p:Int))=(r':Int):=by rw[IntWalk.i64_in _ (by omega)];have:=Hr'.out;omega
        have cd:wr.cell? ⟨gv,ov+r',none⟩=some (.int .u8 Dt[r']):=((HBWR.out.trans (HBQ.out.mono HBWR.out.size)).cell (p:=⟨gv,ov+r',none⟩) hvw).trans (HDT.out r' hrD)
        have zg:wr.frozen? ⟨g,i,none⟩=false:=frozen_of_row _ _ _ _ _ HCU.out.1
        have cg:wr.cell? ⟨g,i,none⟩=some cu[i]:=(cell_of_row _ _ _ _ _ _ HCU.out.1).trans (Array.getElem?_eq_getElem hcs)
        obtain⟨dd,Hdd⟩:∃ d,Hid (Dt[r']'hrD=d):=⟨_,rfl⟩
        rw[Hdd.out]at cd
        have HCN:Hid ((wr.setCell ⟨g,i,none⟩ (.int .u8 dd)).heap[g]? = some (.cells (cu.setIfInBounds i (.int .u8 dd)) 5 (0,0))/\(cu.setIfInBounds i (.int .u8 dd)).toList.take 64=u8s (qfb D0 Dt p kk (i+1))/\(cu.setIfInBounds i (.int .u8 dd)).size=cur.size):=by
         refine⟨heap_setCell_same _ _ i _ _ _ HCU.out.1,?_,by rw[Array.size_setIfInBounds];exact HCU.out.2.2⟩
         have e:qfb D0 Dt p kk (i+1)=(qfb D0 Dt p kk i).set i dd:=by
          conv=>lhs;unfold qfb
          rw[if_pos ⟨hp1',by rw[HL.out];exact hp2'⟩,Hr'.out,List.getD_eq_getElem?_getD,List.getElem?_eq_getElem hrD,Option.getD_some,Hdd.out]
         rw[e]
         exact ybzq _ _ _ _ _ HCU.out.2.1 hil
        have HBN:Hid (Below wr0.heap.size wr0 (wr.setCell ⟨g,i,none⟩ (.int .u8 dd))):=HBQ.out.setCell (p:=⟨g,i,none⟩) HG9.out.1 _
        go_wp2
        go_roundw
        case rel=>exact⟨i+1,_,by omega,by go_num,HCN,HBN⟩
        case measure=>simp[intOf];omega
       ·have HCN:Hid (wr.heap[g]? = some (.cells cu 5 (0,0))/\cu.toList.take 64=u8s (qfb D0 Dt p kk (i+1))/\cu.size=cur.size):=by
         refine⟨HCU.out.1,?_,HCU.out.2.2⟩
         have e:qfb D0 Dt p kk (i+1)=qfb D0 Dt p kk i:=by
          conv=>lhs;unfold qfb
          rw[if_neg (by rw[HL.out];exact hpi)]
         rw[e]
         exact HCU.out.2.1
        by_cases hp1':p<=64*kk+i
        ·have e1:decide ((p:Int)<=64*(kk:Int)+(i:Int))=true:=decide_eq_true (by omega)
         have e2:(p:Int)<=64*(kk:Int)+(i:Int):=by omega
         have e3:decide (64*(kk:Int)+(i:Int)<(p:Int)+(L:Int))=false:=decide_eq_false (by omega)
         have e4:¬ 64*(kk:Int)+(i:Int)<(p:Int)+(L:Int):=by omega
         go_wp2
         go_roundw
         case rel=>exact⟨i+1,_,by omega,by go_num,HCN,HBQ⟩
         case measure=>simp[intOf];omega
        ·have e1:decide ((p:Int)<=64*(kk:Int)+(i:Int))=false:=decide_eq_false (by omega)
         have e2:¬ (p:Int)<=64*(kk:Int)+(i:Int):=by omega
         go_wp2
         go_roundw
         case rel=>exact⟨i+1,_,by omega,by go_num,HCN,HBQ⟩
         case measure=>simp[intOf];omega
      ·obtain rfl:i=64:=by omega
       have hS64:qet wr w.heap.size (.slice (some ⟨g,0,none⟩) 64 cap) (qfb D0 Dt p kk 64):=⟨g,cap,cu,rfl,by rw[qhw,HBLL.out],HG9.out.2,Nat.le_trans HBWR.out.size HG9.out.1,HCU.out.1,HCU.out.2.1⟩
       have hwq:Below w.heap.size w wr:=HBWR.out.trans (HBQ.out.mono HBWR.out.size)
       have hTq:=HTR.out.below HBQ.out
       have hgbT:gb<wr0.heap.size:=qac HRR.out
       have HWR:=Lib.hid (qxb H.out hwq hTq gb { X with P:=yr.P,s:=(nD:Int) } q' j c' (qaa HBQ.out HRR.out) (qai.below HPR.out HBQ.out) ⟨Or.inr rfl,HT12.out.2.2,Nat.le_trans HB1.out.size HGW.out⟩ kk hkP (by rw[hPlr];exact hj8) p' hp256 fo' HO1.out _ (qfb D0 Dt p kk 64) hS64 (fun b hb hc=>by
        injection hb with hb
        have hb':g=b:=hb
        have:=HTR.out.fin b hc
        have:=HG9.out.1
        omega) HPUT.out)
       clear hS64 hwq hTq i1 i2
       go_wp2_with fail
       refine HWR.out.mono ?_
       rintro e w10 ⟨rfl,T2,g2,c2,hT2,u1,u2,u3,u4,⟨u5,u6,u7⟩,cu2,u8a,u9⟩
       have HLN:Hid (LF w w1 (fun i=>F i\/i=gb) T gt gf gb (tx0 s) X nD j ⟨fo',putZ yr.put (p':Int) (qfb D0 Dt p kk 64),yr.P.set kk (p':Int)⟩ w10):=by
        have hwW:w1.heap.size<=wr.heap.size:=Nat.le_trans HKP.out.size HBQ.out.size
        have hpl2:(yr.P.set kk (p':Int)).length=j:=by rw[List.length_set,hPlr]
        refine⟨⟨T2,some ⟨g2,0,none⟩,c2,hT2,fun r hr=>?_,fun r hr=>u2 r (HT12.out.2.1 r hr),fun hc=>?_,?_,?_,fun b hb=>?_⟩,?_⟩
        ·rcases u1 r hr with h1 | h1
         ·exact HT12.out.1 r h1
         ·exact Or.inr (Nat.le_trans hwW h1)
        ·rcases u1 gb hc with h1 | h1
         ·exact HT12.out.2.2 h1
         ·have:=HBQ.out.size
          omega
        ·have:=u4
         rw[show yr.P.length=j from hPlr]at this
         exact this
        ·refine⟨by simp[ints,hPlr],Or.inr ⟨g2,0,c2,by rw[hpl2],fun r u hr=>?_⟩⟩
         rw[Nat.zero_add,cell_of_row _ _ _ _ _ _ u8a,<-Array.getElem?_toList]
         have hrl:r<yr.P.length:=by
          have:=(List.getElem?_eq_some_iff.1 hr).1
          simpa[ints]using this
         have h3:(cu2.toList.take yr.P.length)[r]? = some u:=by rw[u9];exact hr
         rwa [List.getElem?_take,if_pos hrl]at h3
        ·injection hb with hb
         have hb':g2=b:=hb
         subst hb'
         exact⟨Nat.le_trans hwW u5,u6⟩
        ·refine (HKP.out.step (qab.of_below HBQ.out)).trans u3 fun r hr=>?_
         rcases hr with hr | hr
         ·exact HT12.out.1 r hr
         ·exact Or.inr (by rw[hr];exact HGW.out)
       clear hT2 u1 u2 u3 u4 u5 u6 u7 u8a u9
       go_wp2
       go_roundw
       case rel=>exact⟨r+1,_,by omega,congrArg (Value.int .i64) (by have:=Hkk.out;omega),HY1,HLN⟩
       case measure=>simp[intOf];omega
    ·obtain rfl:r=n1:=by omega
     have hyr:yr=y:=by
      have h1:=HYR.out
      rw[HY2.out]at h1
      injection h1 with h1
      exact h1.symm
     subst hyr
     have hkle:¬ (kk:Int)<=((p:Int)+(L:Int) - 1) / 64:=by have h1:=Hkk.out;have h2:=Hn1.out;have h3:=Hk1.out;have h4:=HKK.out;omega
     have hkled:decide ((kk:Int)<=((p:Int)+(L:Int) - 1) / 64)=false:=decide_eq_false hkle
     obtain⟨⟨T',q',c',hT',t1,t2,t3,hR',hP',hbl'⟩,hkp⟩:=HLR.out
     have hPlr:yr.P.length=j:=by rw[(qqc HYR.out).1];exact HP1.out
     have hnv:ybgq (fun r=>F r\/T' r) { X with P:=yr.P,s:=(nD:Int) } wr q' j c':=qwn hP' fun b hb _ hG=>by
      obtain⟨b1,b2⟩:=hbl' b hb
      rcases hG with hG | hG
      ·have h1:=H.out.fin b hG
       have:=HB1.out.size
       omega
      ·exact b2 hG
     have hTF:TxAt wr w.heap.size F gt (.pointer (some ⟨gf,0,none⟩)) { tx0 s with fo:=yr.fo,put:=yr.put } T':=hT'.outer fun r _ hr=>Or.inl hr
     have hset:=qtc hTF 1 (by omega) { X with P:=yr.P,s:=(nD:Int) } q' j c' hnv (by show (0:Nat)<900;omega)
     have HSE:Hid (Calls Tryz.prog 53 #[.pointer (some ⟨gt,0,none⟩),.int .i64 2,.agg #[.int .i64 X.k,.int .i64 X.m,.int .i64 X.u,.int .i64 X.g,.int .i64 (nD:Int),.int .i64 X.l,.int .i64 X.up,.slice q' j c']] wr
       (fun e w'=>e=.returned (.tuple #[])/\qbg w.heap.size F gt (.pointer (some ⟨gf,0,none⟩)) (qhf s X1 yr) T' wr w')):=by
      have e:qhf s X1 yr={ { tx0 s with fo:=yr.fo,put:=yr.put } with nodes:=({ tx0 s with fo:=yr.fo,put:=yr.put }:Tx).nodes.set 1 { X with P:=yr.P,s:=(nD:Int) },dirty:=putZ ({ tx0 s with fo:=yr.fo,put:=yr.put }:Tx).dirty (((1:Nat):Int)+1) (.bool true) }:=by
       rw[HX1.out,HnD.out]
       rfl
      rw[e]
      exact hset
     obtain⟨r0,r1,r2,r3,r4,r5,r6,r7⟩:=qag hR'
     have HTF:=Lib.hid hTF
     have HBWR:Hid (Below w.heap.size w wr):=HB1.out.trans (hkp.to_below HT1.out.new HB1.out.size)
     clear hT' t1 t2 t3 hP' hbl' hkp hnv hTF hset
     go_wp2_with fail
     refine HSE.out.mono ?_
     rintro e w9 ⟨rfl,d9⟩
     have HO9:=Lib.hid (d9.old HBWR.out HTF.out)
     obtain⟨T9,t9,_⟩:=d9
     have HE9:=Lib.hid (HEND.out w9 gt T9 HO9.out t9)
     clear t9 r0 r1 r2 r3 r4 r5 r6 r7
     go_wp2_with fail
     refine HE9.out.mono ?_
     rintro e w10 ⟨rfl,h10,k10⟩
     have H10:Hid (FsAt w10 gf (qhs s (qeu (qhf s X1 yr) X0 X1)) F B a/\qab F w w10):=⟨h10,k10⟩
     clear h10 k10
     go_wp2
     go_ret2
     exact⟨rfl,H10.out⟩
end Go.Proofs.YtpoglnpjadmbpaaGreatDoor
