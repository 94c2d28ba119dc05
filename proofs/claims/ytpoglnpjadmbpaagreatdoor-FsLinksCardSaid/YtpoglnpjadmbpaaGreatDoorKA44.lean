/- Part of the proofs of FsLinks: the texts FsD, Filed1, Filed2, Filed3, Filed4, FsP, CutP, FsL, TxG. -/
import Derived.Test.YtpoglnpjadmbpaaGreatDoorKA43
set_option maxHeartbeats 16000000
set_option maxRecDepth 100000
namespace Go.Proofs.YtpoglnpjadmbpaaGreatDoor
open Go.RowKit
theorem qwc {w:World} {gf:Nat} {s:Fs} {F:Nat->Prop} {B:Nat} {a:Addr} (h:FsAt w gf s F B a) (X:Pn) (hX:s.nodes[1]? = some X) (hk:X.k=1) (p:Nat) (hp:p<=512) (q:Option Addr) (c:Nat):
  Calls Tryz.prog 16 #[.pointer (some ⟨gf,0,none⟩),.int .i64 2,.int .i64 (p:Int),.slice q 0 c] w
   (fun e w'=>e=.returned (.tuple #[.int .i64 0,.int .i64 0])/\w=w'):=by
 have hHF:=ybcc h 1 (by omega) X hX
 rw[hk,if_neg (by omega),if_pos rfl]at hHF
 have HFI:Hid (Calls Tryz.prog 47 #[.pointer (some ⟨gf,0,none⟩),.int .i64 2] w (fun e w'=>e=.returned (.int .i64 0)/\w=w')):=hHF
 have p1:decide ((p:Int)<0)=false:=decide_eq_false (by omega)
 have p2:¬ ((p:Int)<0):=by omega
 have p6:decide ((512:Int)<(p:Int))=false:=decide_eq_false (by omega)
 have p7:¬ ((512:Int)<(p:Int)):=by omega
 have p8:¬ 512<p:=by omega
 clear h hHF hX hk
 go_enter Tryz.func16,Tryz.ntmps16
 go_wp2_with fail
 refine HFI.out.mono ?_
 rintro e w1 ⟨rfl,rfl⟩
 go_wp2
 go_ret2
 simp
def nmA : ByteArray:=⟨#[97]⟩
def fD1 : List Int:=layD (outD []++[(nmA,2)])
def fy1 : Fw:=⟨useF (qay 16) 53,[(53,blkB fD1 0)],[53]⟩
def fs1 : Fs:=ybfj (fs0 80) 420 0 0 qov fD1 fy1
def fX0 : Pn:={ qov with P:=[53],s:=16 }
def fX1 : Pn:={ newN 420 0 0 with P:=[54],s:=6 }
def fDt : List Int:=[120,121,122]
def fy2 : Fw:=⟨useF fs1.fo 54,[(54,qfb qdg fDt 3 0 64)],[54]⟩
def fs2 : Fs:=qhs fs1 (qeu (qhf fs1 fX1 fy2) fX0 fX1)
def fs3 : Fs:=ybwm fs2
def fdk : Dk:=ybeh fs3.dk []
def fdk' : Dk:=qwl fdk
def fs4 : Fs:=⟨fdk',80,seqO fdk.N,fs2.fo,[],fs2.nodes,[]⟩
def padS (l:List Int):List Int:=l++List.replicate (64 - l.length) 0
def gS : Nat->List Int
 | 0=>padS [114,105,110,103,1,80]
 | 1=>padS [37,38,39,40,41,42,43,44,45,46,47,48,49,50,51,52]
 | 2=>padS [0,0,0,0,224,255,127]
 | 5=>padS [74,1,0,0,0,4,2,37,53,54]
 | 6=>padS [0,0,0,0,224,255,127]
 | 7=>padS [2,237,1,0,0,16,0,1,1,53,1,0,0,0,0,0,0,0,0,0,0,0,0,0,0,0,0,0,0,0,0,0,1,164,1,0,0,6,0,1,0,54,1]
 | 8=>padS [97,0,0,0,0,0,0,0,0,0,0,0,0,0,2]
 | 9=>padS [0,0,0,120,121,122]
 | 10=>padS [67,1,0,0,0,197,28,60,81]
 | 37=>padS [2,237,1,0,0,16,0,1,1,53,1,0,0,0,0,0,0,0,0,0,0,0,0,0,0,0,0,0,0,0,0,0,1,164,1,0,0,6,0,1,0,54,1]
 | 53=>padS [97,0,0,0,0,0,0,0,0,0,0,0,0,0,2]
 | 54=>padS [0,0,0,120,121,122]
 | _=>qdg
def ybgw (l:List Int):Bool:=l.all fun x=>decide (0<=x) && decide (x<=255)
theorem qhi {l:List Int} (h:ybgw l=true):∀ x ∈ l,0<=x/\x<=255:=fun x hx=>by
 have:=List.all_eq_true.1 h x hx
 simpa using this
def freeQ (l:List Wr):Bool:=l.all fun x=>decide (x.1<80) && (decide (x.1<5) || decide (37<=x.1))
theorem ybsg {l:List Wr} (h:freeQ l=true):∀ x ∈ l,ybav x:=fun x hx=>by
 have:=List.all_eq_true.1 h x hx
 simpa[ybav]using this
def secsQ (N:List Int) (g:Nat->List Int) (k:Nat):Bool:=(List.range k).all fun n=>decide (sec N n=g n)
theorem qnp {N:List Int} {g:Nat->List Int} {k:Nat} (h:secsQ N g k=true):∀ n,n<k->sec N n=g n:=fun n hn=>by
 have:=List.all_eq_true.1 h n (List.mem_range.2 hn)
 simpa using this
theorem qia : secsQ fdk'.N gS 80=true:=by kernel_rfl
theorem ybhf : (decide (sec fdk.N 0=qfv 80) && ybgw fdk.N && freeQ (ybcx fdk.N) && decide (seqO fdk.N=1) && decide (fdk.W.length=0))=true:=by kernel_rfl
theorem ybmi (n:Nat) (hn:n<80):∀ x ∈ gS n,0<=x/\x<=255:=by
 have h:((List.range 80).all fun n=>ybgw (gS n))=true:=by kernel_rfl
 exact qhi (List.all_eq_true.1 h n (List.mem_range.2 hn))
section
variable {N N' : Nat -> List Int} {k : Nat} {f : Fo}
theorem qlv.congr (h:qlv N f k) (hk:4<=k) (hN:∀ n,n<k->N' n=N n):qlv N' f k:=by
 have e:qfc N'=qfc N:=by unfold qfc;rw[hN 1 (by omega),hN 2 (by omega),hN 3 (by omega)]
 exact⟨by rw[e];exact h.eq,by rw[e];exact h.right,h.root,h.nds⟩
theorem qqz {nd:Nat->Int} (h:∀ j,j<16->0<=nd j/\nd j<(k:Int)) (hN:∀ n,n<k->N' n=N n) (j:Nat) (hj:j<32):qhj N' nd j=qhj N nd j:=by
 unfold qhj
 have:=h (j / 2) (by omega)
 rw[hN _ (by omega)]
theorem qlz.congr {nd:Nat->Int} (h:qlz N nd k) (hN:∀ n,n<k->N' n=N n):qlz N' nd k:=
 ⟨h.1,fun j hj=>by rw[qqz h.1 hN j hj];exact h.2 j hj⟩
theorem qsz {nd:Nat->Int} (h:∀ j,j<16->0<=nd j/\nd j<(k:Int)) (hN:∀ n,n<k->N' n=N n):qfk N' nd 32=qfk N nd 32:=by
 unfold qfk
 refine List.map_congr_left fun j hj=>?_
 rw[qqz h hN j (by simpa using hj)]
theorem qjp {P:List Int} (h:∀ p ∈ P,p=0\/(37<=p/\p<(k:Int))) (hN:∀ n,n<k->N' n=N n) (s:Int):qbc N' P s=qbc N P s:=by
 unfold qbc
 have e:P.flatMap (qby N')=P.flatMap (qby N):=by
  rw[List.flatMap_def,List.flatMap_def]
  congr 1
  refine List.map_congr_left fun p hp=>?_
  unfold qby
  rcases h p hp with rfl | ⟨h1,h2⟩
  ·simp
  ·rw[hN _ (by omega)]
 rw[e]
theorem qoa.congr {t:Nat} {L:List Pn} (h:qoa N f t k L) (hN:∀ n,n<k->N' n=N n):qoa N' f t k L:=by
 have e:qkt N' L=qkt N L:=by
  unfold qkt
  refine qjp (fun p hp=>?_) hN _
  by_cases h0:0<L.length
  ·rw[List.getD_eq_getElem?_getD,List.getElem?_eq_getElem h0,Option.getD_some]at hp
   exact h.own.pts _ (List.getElem_mem _) p hp
  ·rw[List.getD_eq_getElem?_getD,List.getElem?_eq_none (by omega)]at hp
   cases hp
 exact⟨h.tree.congr hN,(qsz h.tree.1 hN).trans h.eq,h.own,h.size,by rw[e];exact h.list,by rw[e];exact h.root,h.up,by rw[e];exact h.names⟩
theorem qlt.congr (h:qlt N f k) (hk:5<=k) (hN:∀ n,n<k->N' n=N n):qlt N' f k:=
 ⟨by rw[hN 0 (by omega)];exact h.mark,h.load.congr (by omega) hN,by rw[hN 4 (by omega)];exact h.quota,fun t ht hth=>(h.tree t ht hth).imp fun _ h=>h.congr hN⟩
end
def ybyb (bs:List Int):Bool:=
 decide (bs.length=32) && (decide ((midB bs).length=16) && decide ((qfr (midB bs)).2=0) && decide (qeg (ofE (qfr (midB bs)).1)=midB bs)) && decide (qan (bs.getD 0 0) (bs.getD 1 0+bs.getD 2 0*256) (bs.getD 3 0) (bs.getD 4 0) (bs.getD 5 0+bs.getD 6 0*256) (bs.getD 7 0) (bs.getD 8 0) (ptsN bs)=0) &&
 decide (qgz (bs.getD 0 0) (bs.getD 1 0+bs.getD 2 0*256) (bs.getD 3 0) (bs.getD 4 0) (bs.getD 5 0+bs.getD 6 0*256) (bs.getD 7 0) (bs.getD 8 0) (ptsN bs)=bs)
theorem ybso {bs:List Int} (h:ybyb bs=true):qmr bs:=by
 unfold ybyb at h
 simp only[Bool.and_eq_true,decide_eq_true_eq]at h
 exact⟨h.1.1.1,⟨h.1.1.2.1.1,h.1.1.2.1.2,h.1.1.2.2⟩,h.1.2,h.2⟩
def ybxs (N:Nat->List Int) (f:Fo) (k:Nat) (L:List Pn):Bool:=
 decide (N 0=qfv k) && decide (qbn (foB (qfc N))=0) && (qbd f 0 && !qbd f 1 && !qbd f 2 && !qbd f 3) &&
 ((List.range 16).all fun i=>decide (37<=f.nd 0 i) && decide (f.nd 0 i<(k:Int))) && decide (N 4=qdg) &&
 ((List.range 32).all fun j=>ybyb (qhj N (f.nd 0) j)) &&
 decide ((qjy (f.nd 0) 16++qfg L).Nodup) && (L.all fun x=>decide (x.P.length<=8) && x.P.all fun p=>decide (p=0) || (decide (37<=p) && decide (p<(k:Int)))) &&
 ((List.range 256).all fun m=>decide (qdj (qjy (f.nd 0) 16++qfg L) m=f.hs 0 m)) &&
 (decide (0<=(L.getD 0 zN).s) && decide ((L.getD 0 zN).s<=512)) && qcn (qkt N L) &&
 (decide (L.length=32) && ((List.range 32).all fun i=>decide ((L.getD i zN).k=2) == decide (i=0)) && ((outD (qkt N L)).all fun x=>decide (1<x.2) && decide (x.2<=32)) && decide ((outD (qkt N L)).length<=32)) &&
 decide ((L.getD 0 zN).up=1) && ((List.range 32).all fun i=>decide ((L.getD i zN).l=ybcp (outD (qkt N L)) i) && (!decide ((L.getD i zN).k=0) || decide (ybcp (outD (qkt N L)) i<=0)))
theorem ybrz {N:Nat->List Int} {f:Fo} {k:Nat} {L:List Pn} (h:ybxs N f k L=true) (he:encF (foB (qfc N))=encF f) (hL:qfk N (f.nd 0) 32=L):qlt N f k:=by
 unfold ybxs at h
 simp only[Bool.and_eq_true,decide_eq_true_eq,List.all_eq_true,List.mem_range,Bool.not_eq_true',Bool.or_eq_true,beq_iff_eq,decide_eq_false_iff_not]at h
 obtain⟨⟨⟨⟨⟨⟨⟨⟨⟨⟨⟨⟨⟨h1,h2⟩,⟨⟨h3,h4⟩,h5⟩,h6⟩,h7⟩,h8⟩,h9⟩,h10⟩,h11⟩,h12⟩,h13⟩,h14⟩,⟨⟨h15,h16⟩,h17⟩,h18⟩,h19⟩,h20⟩:=h
 refine⟨h1,⟨he,h2,h3,fun t i ht hi hth=>?_⟩,by rw[h8];exact qvj,fun t ht hth=>?_⟩
 ·have:t=0\/t=1\/t=2\/t=3:=by omega
  rcases this with rfl | rfl | rfl | rfl
  ·exact h7 i hi
  ·rw[h4]at hth;cases hth
  ·rw[h5]at hth;cases hth
  ·rw[h6]at hth;cases hth
 ·have:t=0\/t=1\/t=2\/t=3:=by omega
  rcases this with rfl | rfl | rfl | rfl
  ·refine⟨L,⟨fun j hj=>?_,fun j hj=>ybso (h9 j hj)⟩,hL,⟨h10,h7,fun x hx p hp=>(h11 x hx).2 p hp,h12,fun x hx=>(h11 x hx).1⟩,h13,h14,⟨h15,fun i hi=>?_,h17,h18⟩,h19,fun i hi=>⟨(h20 i hi).1,fun hk=>(h20 i hi).2.resolve_left (fun hc=>hc hk)⟩⟩
   ·have:=h7 j hj;omega
   ·have:=h16 i (by omega)
    rw[List.getD_eq_getElem?_getD,List.getElem?_eq_getElem hi,Option.getD_some]at this
    simpa using this
  ·rw[h4]at hth;cases hth
  ·rw[h5]at hth;cases hth
  ·rw[h6]at hth;cases hth
theorem ybbt : ybxs gS fs2.fo 80 fs2.nodes=true:=by kernel_rfl
theorem yblj : encF (foB (qfc gS))=encF fs2.fo:=by kernel_rfl
theorem quf : qfk gS (fs2.fo.nd 0) 32=fs2.nodes:=by kernel_rfl
theorem qhz : qlt gS fs2.fo 80:=ybrz ybbt yblj quf
theorem qzd {f:Fo} (e1:qbd f 1=false) (e2:qbd f 2=false) (e3:qbd f 3=false):qbm f:=fun k h1 h4=>by
 have:k=1\/k=2\/k=3:=by omega
 rcases this with rfl | rfl | rfl
 ·exact e1
 ·exact e2
 ·exact e3
theorem qko : qbm (qay 16):=qzd qmm.1 qmm.2.1 qmm.2.2
theorem ybhi : ybkg (fs0 80) nmA 420 0 0 qov [] fD1 fy1 37 where
 hX:=rfl
 hk:=rfl
 hl:=by decide
 hP:=fun p hp=>by cases hp
 hPl:=by decide
 hs:=by decide
 hnm:=by kernel_rfl
 hD:=by kernel_rfl
 hDB:=fun x hx=>by cases hx
 hok:=by kernel_rfl
 hfd:=by kernel_rfl
 hz:=⟨zN,by kernel_rfl,rfl⟩
 hput:=by kernel_rfl
 hD':=by kernel_rfl
 hD5:=Nat.le_of_ble_eq_true (by kernel_rfl)
 hg:=Nat.le_of_ble_eq_true (by kernel_rfl)
 hn:=qko
 hy:=by kernel_rfl
 hrows:=rfl
 hp0:=by kernel_rfl
 hp1:=by decide
 hp2:=by decide
 hny:=qko.use 53
 hr0:=by kernel_rfl
 hr1:=by kernel_rfl
 hl0:=by kernel_rfl
 hl1:=by kernel_rfl
 hr:=by kernel_rfl
 hlen:=Nat.le_of_ble_eq_true (by kernel_rfl)
theorem fs1_n0 : fs1.nodes[0]? = some fX0:=by kernel_rfl
theorem fs1_n1 : fs1.nodes[1]? = some { fX1 with P:=[],s:=0 }:=by kernel_rfl
theorem fs2_n0 : fs2.nodes[0]? = some fX0:=by kernel_rfl
theorem ybwc : fs2.nodes[1]? = some fX1:=by kernel_rfl
theorem ybev : fs2.todo.map (fun x=>x.1)=[2,37,53,54]:=by kernel_rfl
theorem ybxu : fs1.todo.length=3:=by kernel_rfl
theorem ybby : fwrE fs1 (tx0 fs1) fDt 3 0 ⟨fs1.fo,[],[]++List.replicate 1 0⟩ 1=some fy2:=by kernel_rfl
theorem qri : qbm fs1.fo:=qzd (by kernel_rfl) (by kernel_rfl) (by kernel_rfl)
theorem yblk : qbm fy2.fo:=qri.use 54
theorem ybbw : qbn (qeu (qhf fs1 fX1 fy2) fX0 fX1).fo=0:=by kernel_rfl
theorem ybrt : qdt fX0=0/\qdt fX1=0/\(qbf fX0).length=32/\(qbf fX1).length=32:=⟨by kernel_rfl,by kernel_rfl,by kernel_rfl,by kernel_rfl⟩
theorem ybhj : fs1.k=80/\fs1.rows=[]/\fs2.k=80/\fs2.rows=[]/\fs2.sq=0:=⟨rfl,rfl,rfl,rfl,rfl⟩
theorem ybbs : qnz fs2:=by
 have h:((List.range 80).all fun n=>ybgw (secE fs2 n))=true:=by kernel_rfl
 exact fun n hn=>qhi (List.all_eq_true.1 h n (List.mem_range.2 hn))
theorem ybhg : ybql (wrOf fs2.todo) where
 n:=by
  have h:((wrOf fs2.todo).all fun x=>(decide (x.1<5) || decide (37<=x.1)) && decide (x.1<80))=true:=by kernel_rfl
  intro x hx
  have:=List.all_eq_true.1 h x hx
  simpa using this
 d:=by
  have h:(wrOf fs2.todo).map (fun x=>x.1)=[2,37,53,54]:=by kernel_rfl
  rw[h];decide
 l:=Nat.le_of_ble_eq_true (by kernel_rfl)
theorem ybbu : qgc (qbc (secE fs2) fX1.P fX1.s) 2 9=[0,120,121,122]:=by kernel_rfl
theorem ybbv : qgc (qbc gS fX1.P fX1.s) 0 9=[0,0,0,120,121,122]:=by kernel_rfl
theorem ybxr : fs2.dk.W.length=0:=by kernel_rfl
theorem ybhk : qbc gS fX0.P fX0.s=fD1:=by kernel_rfl
theorem ybeo : qco fD1/\qcn fD1=true/\(qee fD1 nmA).1=2/\(qee fD1 nmA).2.2=0:=⟨qhi (by kernel_rfl),by kernel_rfl,by kernel_rfl,by kernel_rfl⟩
end Go.Proofs.YtpoglnpjadmbpaaGreatDoor
namespace Go.Proofs.YtpoglnpjadmbpaaGreatDoor
section
variable {α : Type}
theorem qui {k:Int}:∀ {l:List (Int × α)},(∀ y ∈ l,k<y.1)->getZ l k=none
 | [],_=>rfl
 | y :: r,h=>by
  unfold getZ
  have:=h y List.mem_cons_self
  rw[if_neg (by omega)]
  exact qui fun z hz=>h z (List.mem_cons_of_mem _ hz)
theorem qmp (y:Int × α) (r:List (Int × α)) (k:Int):getZ (y :: r) k=if y.1=k then some y.2 else getZ r k:=rfl
theorem quh (k:Int):∀ {p:List (Int × α)} (t:List (Int × α)),qcp p->getZ (qbv t p) k=(getZ p k).or (getZ t k)
 | [],t,_=>by simp[qbv,getZ]
 | y :: r,t,h=>by
  have ih:=quh k (putZ t y.1 y.2) h.tail
  show getZ (qbv (putZ t y.1 y.2) r) k=_
  rw[ih]
  by_cases hk:y.1=k
  ·subst hk
   rw[qui h.head,qgj]
   show _=(getZ (y :: r) y.1).or _
   unfold getZ
   rw[if_pos rfl];rfl
  ·rw[qcg _ (Ne.symm hk),qmp,if_neg hk]
theorem qsb : ∀ {p t:List (Int × α)},qcp t->qcp (qbv t p)
 | [],_,h=>h
 | _ :: r,_,h=>qsb (p:=r) (qex _ _ h)
theorem qup : ∀ {p t:List (Int × α)} {z:Int × α},z ∈ qbv t p->z ∈ p\/z ∈ t
 | [],_,_,h=>Or.inr h
 | y :: r,t,z,h=>by
  rcases qup (p:=r) (t:=putZ t y.1 y.2) h with h | h
  ·exact Or.inl (List.mem_cons_of_mem _ h)
  ·rcases qde h with h | h
   ·exact Or.inl (h ▸ List.mem_cons_self)
   ·exact Or.inr h
theorem qkx {k j:Int} (hj:j ≠ k):∀ (l:List (Int × α)),getZ (delZ l k) j=getZ l j
 | []=>rfl
 | y :: r=>by
  have ih:=qkx hj r
  unfold delZ at ih ⊢
  rw[List.filter_cons]
  by_cases h:y.1=k
  ·rw[if_neg (by simp[h]),ih,qmp,if_neg (by omega)]
  ·rw[if_pos (by simp[h]),qmp,qmp,ih]
theorem qws {l:List (Int × α)} (h:qcp l) (K:List Int) (hK:∀ z ∈ l,z.1 ∈ K):l.length<=K.length:=by
 have h1:(l.map (·.1)).Nodup:=by
  refine List.Pairwise.imp (R:=fun a b=>a<b) (fun {a b} hab=>by omega) ?_
  exact List.pairwise_map.2 h
 have h3:=qnb h1 (ys:=K) fun x hx=>by
  obtain⟨z,hz,rfl⟩:=List.mem_map.1 hx
  exact hK z hz
 simpa using h3
end
theorem qyo : ∀ (g:List Int) {put:List (Int × List Int)},qcp put->qcp (gonP put g)
 | [],_,h=>h
 | _ :: g,_,h=>qyo g (qxx _ h)
theorem qqd : ∀ (g:List Int) {put:List (Int × List Int)} {z:Int × List Int},z ∈ gonP put g->z ∈ put
 | [],_,_,h=>h
 | _ :: g,_,_,h=>ybei (qqd g h)
theorem ybez {k:Int}:∀ (g:List Int) (put:List (Int × List Int)),k ∉ g->getZ (gonP put g) k=getZ put k
 | [],_,_=>rfl
 | p :: g,put,h=>by
  show getZ (gonP (delZ put p) g) k=_
  rw[ybez g _ fun hc=>h (List.mem_cons_of_mem _ hc),qkx (fun e=>h (by rw[e];exact List.mem_cons_self))]
theorem qpx (s:Fs) (b:List Int) {put:List (Int × List Int)} (h:qcp put):∀ j,qcp (dfK s b put j)
 | 0=>h
 | j+1=>by
  unfold dfK
  split
  ·exact qpx s b h j
  ·exact qex _ _ (qpx s b h j)
theorem qvs (s:Fs) (b:List Int) {put:List (Int × List Int)} {z:Int × List Int}:∀ j,z ∈ dfK s b put j->(∃ i,i<j/\z=(((1+i:Nat):Int),sec b i))\/z ∈ put
 | 0,h=>Or.inr h
 | j+1,h=>by
  unfold dfK at h
  split at h
  ·rcases qvs s b j h with⟨i,hi,e⟩ | h
   ·exact Or.inl ⟨i,by omega,e⟩
   ·exact Or.inr h
  ·rcases qde h with h | h
   ·exact Or.inl ⟨j,by omega,h⟩
   ·rcases qvs s b j h with⟨i,hi,e⟩ | h
    ·exact Or.inl ⟨i,by omega,e⟩
    ·exact Or.inr h
theorem qvq (s:Fs) (b:List Int) {put:List (Int × List Int)} {k:Int}:∀ j:Nat,(k<1\/(j:Int)<k)->getZ (dfK s b put j) k=getZ put k
 | 0,_=>rfl
 | j+1,h=>by
  unfold dfK
  split
  ·exact qvq s b j (by omega)
  ·rw[qcg _ (by omega)]
   exact qvq s b j (by omega)
theorem ybmq (x:Tx) (s:Fs) (h:qcp x.put):qcp (qbl x s):=by
 unfold qbl dfQ
 split
 ·exact qpx s _ h 3
 ·exact qex _ _ (qpx s _ h 3)
theorem ybfe (x:Tx) (s:Fs) {z:Int × List Int} (h:z ∈ qbl x s):z=(4,qfh x.rows.length x.rows)\/(∃ i,i<3/\z=(((1+i:Nat):Int),sec (qbs x.fo) i))\/z ∈ x.put:=by
 unfold qbl dfQ at h
 split at h
 ·exact Or.inr (qvs s _ 3 h)
 ·rcases qde h with h | h
  ·exact Or.inl h
  ·exact Or.inr (qvs s _ 3 h)
theorem ybst (x:Tx) (s:Fs) {k:Int} (h:k<1\/4<k):getZ (qbl x s) k=getZ x.put k:=by
 unfold qbl dfQ
 split
 ·exact qvq s _ 3 (by omega)
 ·rw[qcg _ (by omega)]
  exact qvq s _ 3 (by omega)
theorem qmi (s:Fs) (x:Tx) (h:qcp s.todo):qcp (qhs s x).todo:=qsb h
theorem qpc (s:Fs) (x:Tx) {z:Int × List Int} (h:z ∈ (qhs s x).todo):z=(4,qfh x.rows.length x.rows)\/(∃ i,i<3/\z=(((1+i:Nat):Int),sec (qbs x.fo) i))\/z ∈ x.put\/z ∈ s.todo:=by
 rcases qup h with h | h
 ·rcases ybfe x s h with h | h | h
  ·exact Or.inl h
  ·exact Or.inr (Or.inl h)
  ·exact Or.inr (Or.inr (Or.inl h))
 ·exact Or.inr (Or.inr (Or.inr h))
theorem ybad (s:Fs) (x:Tx) (hp:qcp x.put) (n:Nat):secE (qhs s x) n=(getZ (qbl x s) (n:Int)).getD (secE s n):=by
 show (getZ (qbv s.todo (qbl x s)) (n:Int)).getD (sec s.dk.N n)=_
 rw[quh _ _ (ybmq x s hp)]
 unfold secE
 cases getZ (qbl x s) (n:Int) <;> rfl
theorem qqn (s:Fs) (x:Tx) (hp:qcp x.put) (n:Nat) (hn:n=0\/4<n):secE (qhs s x) n=(getZ x.put (n:Int)).getD (secE s n):=by
 rw[ybad s x hp,ybst x s (by omega)]
theorem ybef (s:Fs) (x:Tx) (hp:qcp x.put) (hs:qnz s) (h1:∀ z ∈ x.put,qco z.2) (h2:qco (qbs x.fo)) (h3:x.rows=[]):qnz (qhs s x):=by
 intro n hn y hy
 rw[ybad s x hp]at hy
 cases hg:getZ (qbl x s) (n:Int) with
 | none=>rw[hg]at hy;exact hs n hn y hy
 | some v=>
  rw[hg,Option.getD_some]at hy
  rcases ybfe x s (qmq hg) with h | ⟨i,hi,h⟩ | h
  ·injection h with _ e
   rw[e,h3]at hy
   have:(qfh (([]:List (Int × Int)).length:Int) []).all (fun x=>decide (0<=x) && decide (x<=255))=true:=by kernel_rfl
   simpa using List.all_eq_true.1 this y hy
  ·injection h with _ e
   rw[e]at hy
   exact h2 y (by unfold sec at hy;exact List.mem_of_mem_drop (List.mem_of_mem_take hy))
  ·exact h1 _ h y hy
theorem quy (f:Fo) (s:Nat->Bool) (h:qbd f 0=true):qbn (hasF f s)=qbn f:=by
 have b0:badT (hasF f s) 0=false:=by unfold badT;rw[show qbd (hasF f s) 0=true from h];rfl
 have c0:badT f 0=false:=by unfold badT;rw[h];rfl
 have n (k:Nat):badN (hasF f s) k=badN f k:=rfl
 have t (k:Nat) (hk:k ≠ 0):badT (hasF f s) k=badT f k:=by
  have:encT (hasF f s) k=encT f k:=by
   have e:(hasF f s).hs k=f.hs k:=if_neg hk
   unfold encT
   congr 1
   funext j
   unfold qdb
   rw[e]
   rfl
  unfold badT ybtu
  rw[this]
  rfl
 unfold qbn
 rw[n,n,n,n,b0,c0,t 1 (by omega),t 2 (by omega),t 3 (by omega)]
theorem qsf (f:Fo) (s:Nat->Bool) (h:qco (qbs f)):qco (qbs (hasF f s)):=by
 intro x hx
 unfold qbs at hx
 rcases List.mem_append.1 hx with hx | hx
 ·exact h x (List.mem_append_left _ hx)
 ·unfold Ls at hx
  obtain⟨m,_,rfl⟩:=List.mem_map.1 hx
  have:=qxq ((hasF f s).hs (m / 32)) (m % 32)
  omega
open Go.RowKit
def pmP (m K:Nat):List Int:=(List.range m).map (fun i=>((54+i:Nat):Int))++List.replicate (K - m) 0
theorem ybdd {m K:Nat} (h:m<=K):(pmP m K).length=K:=by unfold pmP;simp;omega
theorem ybzd {m K j:Nat}:(pmP m K).getD j 0=if j<m then ((54+j:Nat):Int) else 0:=by
 unfold pmP
 by_cases h:j<m
 ·rw[if_pos h,List.getD_eq_getElem?_getD,List.getElem?_append_left (by simpa using h),List.getElem?_map,List.getElem?_range h];rfl
 ·rw[if_neg h,List.getD_eq_getElem?_getD,List.getElem?_append_right (by simp;omega),List.getElem?_replicate]
  split <;> rfl
def cN (m sz:Nat):Pn:={ newN 420 0 0 with P:=pmP m (blkN (sz:Int)),s:=(sz:Int) }
def blkC (c:Nat->Int) (j:Nat):List Int:=(List.range 64).map fun i=>c (64*j+i)
theorem ybee (c:Nat->Int) (j i:Nat):(blkC c j)[i]? = if i<64 then some (c (64*j+i)) else none:=by
 unfold blkC
 by_cases h:i<64
 ·rw[if_pos h,List.getElem?_map,List.getElem?_range h];rfl
 ·rw[if_neg h,List.getElem?_eq_none (by simp;omega)]
theorem ybww {c d:Nat->Int} {j:Nat} (h:∀ i,i<64->c (64*j+i)=d (64*j+i)):blkC c j=blkC d j:=List.map_congr_left fun i hi=>h i (List.mem_range.1 hi)
theorem ybkq {c:Nat->Int} {j:Nat} (h:∀ i,i<64->c (64*j+i)=0):blkC c j=List.replicate 64 0:=by
 rw[ybww (d:=fun _=>0) h]
 unfold blkC
 rw[List.map_const',List.length_range]
theorem qvo (c:Nat->Int):∀ K,(List.range K).flatMap (blkC c)=(List.range (64*K)).map c
 | 0=>rfl
 | K+1=>by
  rw[List.range_succ,List.flatMap_append,qvo c K,show 64*(K+1)=64*K+64 by omega,List.range_add,List.map_append]
  simp[blkC]
def cKeys : List Int:=[1,2,3,4,37,53,54,55,56,57,58,59,60,61]
structure CutS (s : Fs) (m sz : Nat) (c : Nat -> Int) : Prop where
 k:s.k=80
 rows:s.rows=[]
 fo:∃ S,s.fo=hasF fs1.fo S
 n0:s.nodes[0]? = some fX0
 n1:s.nodes[1]? = some (cN m sz)
 hm:m<=blkN (sz:Int)
 hsz:sz<=512
 rise:qcp s.todo
 keys:∀ z ∈ s.todo,z.1 ∈ cKeys
 byte:qnz s
 blk:∀ j,j<m->secE s (54+j)=blkC c j
 zero:∀ i,sz<=i->c i=0
 hole:∀ i,64*m<=i->c i=0
section
variable {s : Fs} {m sz : Nat} {c : Nat -> Int}
theorem CutS.len (h:CutS s m sz c):s.todo.length<=14:=qws h.rise cKeys h.keys
theorem yblz : qbd fs1.fo 0=true:=by kernel_rfl
theorem ybly : qbn fs1.fo=0:=by kernel_rfl
theorem CutS.snap (h:CutS s m sz c):qbm s.fo:=by
 obtain⟨S,e⟩:=h.fo
 rw[e]
 exact fun k h1 h2=>qri k h1 h2
theorem CutS.nd (h:CutS s m sz c):s.fo.nd 0 0=37:=by
 obtain⟨S,e⟩:=h.fo
 rw[e]
 show fs1.fo.nd 0 0=37
 kernel_rfl
theorem CutS.right (h:CutS s m sz c) (S:Nat->Bool):qbn (hasF s.fo S)=0:=by
 obtain⟨T,e⟩:=h.fo
 rw[e,qcy,quy _ _ yblz];exact ybly
theorem CutS.text (h:CutS s m sz c):qbc (secE s) (cN m sz).P (cN m sz).s=(List.range sz).map c:=by
 have hf:(pmP m (blkN (sz:Int))).flatMap (qby (secE s))=(List.range (64*blkN (sz:Int))).map c:=by
  rw[<-qvo]
  have e:pmP m (blkN (sz:Int))=(List.range (blkN (sz:Int))).map fun j=>if j<m then ((54+j:Nat):Int) else 0:=by
   apply List.ext_getElem?
   intro j
   by_cases hj:j<blkN (sz:Int)
   ·have h1:=ybzd (m:=m) (K:=blkN (sz:Int)) (j:=j)
    rw[List.getElem?_map,List.getElem?_range hj,List.getElem?_eq_getElem (by rw[ybdd h.hm];exact hj)]
    rw[List.getD_eq_getElem?_getD,List.getElem?_eq_getElem (by rw[ybdd h.hm];exact hj),Option.getD_some]at h1
    rw[h1];rfl
   ·rw[List.getElem?_eq_none (by rw[ybdd h.hm];omega),List.getElem?_eq_none (by simp;omega)]
  rw[e,List.flatMap_map]
  rw[List.flatMap_def,List.flatMap_def]
  congr 1
  refine List.map_congr_left fun j hj=>?_
  show qby (secE s) _=_
  unfold qby
  by_cases hjm:j<m
  ·rw[if_pos hjm,if_neg (by omega),Int.toNat_natCast,h.blk j hjm]
  ·rw[if_neg hjm,if_pos rfl,ybkq fun i _=>h.hole _ (by omega)]
 show List.take _ (List.flatMap _ (pmP m (blkN (sz:Int))))=_
 rw[hf,<-List.map_take,List.take_range]
 congr 2
 have:sz<=64*blkN (sz:Int):=by unfold blkN qcc;split <;> omega
 show min (Int.toNat (sz:Int)) _=_
 omega
end
theorem qxp (old Dt:List Int) (k:Nat) (ho:old.length=64):∀ n,n<=64->∀ i,i<64->(qfb old Dt 0 k n)[i]? = if i<n/\64*k+i<Dt.length then some (Dt.getD (64*k+i) 0) else old[i]?
 | 0,_,i,_=>by rw[if_neg (by omega)];rfl
 | n+1,hn,i,hi=>by
  have ih:=qxp old Dt k ho n (by omega) i hi
  unfold qfb
  by_cases h:0<=64*k+n/\64*k+n<0+Dt.length
  ·rw[if_pos h,List.getElem?_set]
   by_cases e:n=i
   ·subst e
    rw[if_pos rfl,if_pos (by rw[qhw,ho];omega),if_pos (by omega),Nat.sub_zero]
   ·rw[if_neg e,ih]
    by_cases h2:i<n/\64*k+i<Dt.length
    ·rw[if_pos h2,if_pos (by omega)]
    ·rw[if_neg h2,if_neg (by omega)]
  ·rw[if_neg h,ih]
   by_cases h2:i<n/\64*k+i<Dt.length
   ·rw[if_pos h2,if_pos (by omega)]
   ·rw[if_neg h2,if_neg (by omega)]
theorem ybkr (Dt:List Int) (j:Nat):qfb (List.replicate 64 0) Dt 0 j 64=blkC (fun i=>Dt.getD i 0) j:=by
 apply List.ext_getElem?
 intro i
 by_cases hi:i<64
 ·rw[qxp _ _ _ (by simp) 64 (by omega) i hi,ybee,if_pos hi]
  by_cases h:i<64/\64*j+i<Dt.length
  ·rw[if_pos h]
  ·rw[if_neg h,List.getElem?_replicate,if_pos hi]
   simp only[List.getD_eq_getElem?_getD]
   rw[List.getElem?_eq_none (by omega)];rfl
 ·rw[List.getElem?_eq_none (by rw[qhw];simp;omega),ybee,if_neg hi]
def upN (N:Pn):Pn:={ N with l:=N.l+1 }
structure ybvt (s : Fs) (name : ByteArray) (X N : Pn) (D D' : List Int) (y : Fw) (p0 : Nat) : Prop where
 hX:s.nodes[0]? = some X
 hN:s.nodes[1]? = some N
 kN:N.k=1
 lN:0<N.l/\N.l<200
 hk:X.k=2
 hl:0<X.l
 hP:qgd X.P s.k
 hPl:X.P.length<=8
 hs:0<=X.s/\X.s<=64*(X.P.length:Int)
 hnm:qjs name=true
 hD:qbc (secE s) X.P X.s=D
 hDB:qco D
 hok:qcn D=true
 hfd:(qee D name).2.2=4
 hput:qho D (name,2)=0
 hD':layD (outD D++[(name,2)])=D'
 hD5:D'.length<=512
 hg:X.P.length<=(D'.length+63) / 64
 hn:qbm s.fo
 hy:qcx s.k D' ⟨s.fo,[],X.P++List.replicate ((D'.length+63) / 64 - X.P.length) 0⟩ ((D'.length+63) / 64)=some y
 hrows:s.rows=[]
 hp0:y.fo.nd 0 0=(p0:Int)
 hp1:0<p0
 hp2:p0<256
 hny:qbm y.fo
 hr0:qdt { X with P:=y.P,s:=(D'.length:Int) }=0
 hr1:qdt (upN N)=0
 hl0:(qbf { X with P:=y.P,s:=(D'.length:Int) }).length=32
 hl1:(qbf (upN N)).length=32
 hr:qbn (qeu (qie s X (upN N) D' y) { X with P:=y.P,s:=(D'.length:Int) } (upN N)).fo=0
 hlen:s.todo.length+y.put.length<=24
def qyx (s:Fs) (X N:Pn) (D':List Int) (y:Fw):Fs:=qhs s (qeu (qie s X (upN N) D' y) { X with P:=y.P,s:=(D'.length:Int) } (upN N))
theorem ybxw {w:World} {gf:Nat} {s:Fs} {F:Nat->Prop} {B:Nat} {a:Addr} (h:FsAt w gf s F B a) (hB:B<=w.heap.size) {name:ByteArray} {X N:Pn} {D D':List Int} {y:Fw} {p0:Nat} (hm:ybvt s name X N D D' y p0):
  Calls Tryz.prog 21 #[.pointer (some ⟨gf,0,none⟩),.int .i64 1,.string name,.int .i64 2] w
   (fun e w'=>e=.returned (.int .i64 0)/\FsAt w' gf (qyx s X N D' y) F B a/\qab F w w'):=by
 have H:=Lib.hid h
 have HM:=Lib.hid hm
 have HNM:=Lib.hid (fun W=>qqh name W)
 rw[hm.hnm]at HNM
 have HTH:Hid (∀ W:World,Below w.heap.size w W->Calls Tryz.prog 60 #[.pointer (some ⟨gf,0,none⟩),.int .i64 2] W (fun e w'=>e=.returned (.bool true)/\W=w')):=fun W hW=>by
  have:=qmo (h.below hW) 1 (by omega) N hm.hN
  rw[show decide (N.k ≠ 0)=true from decide_eq_true (by rw[hm.kN];decide)]at this
  exact this
 have HND:Hid (∀ W:World,Below w.heap.size w W->∃ gn on cn,W.cell? ⟨gf,195,none⟩=some (.slice (some ⟨gn,on,none⟩) 32 cn)/\gn<W.heap.size/\W.cell? ⟨gn,on+8,none⟩=some (.int .i64 1)/\W.cell? ⟨gn,on+8+5,none⟩=some (.int .i64 N.l)):=fun W hW=>by
  obtain⟨gn,on,cn,yq,yn,yc,c195,hgn,e0,e1,e2,e3,e4,e5,_⟩:=qdz (h.below hW) 1 (by omega) N hm.hN
  exact⟨gn,on,cn,c195,hgn,by rw[hm.kN]at e0;exact e0,e5⟩
 have HPL:Hid (∀ W:World,Below w.heap.size w W->Calls Tryz.prog 61 #[.pointer (some ⟨gf,0,none⟩),.int .i64 1,.string name] W (fun e w'=>e=.returned (.int .i64 0)/\Below W.heap.size W w')):=fun W hW=>
  ybex (h.below hW) 0 (by omega) X hm.hX hm.hk hm.hl hm.hP hm.hPl hm.hs name hm.hnm D hm.hD hm.hDB hm.hok hm.hfd
 have hlen32:=h.len
 have hXA:(s.nodes.set 1 (upN N))[0]? = some X:=by rw[List.getElem?_set_ne (by omega)];exact hm.hX
 have hN1:(s.nodes.set 1 (upN N))[1]? = some (upN N):=by rw[List.getElem?_set_self (by omega)]
 have HENT:Hid (∀ (W0 W:World) (gt:Nat) (T:Nat->Prop),Below w.heap.size w W0->Below W0.heap.size W0 W->TxAt W W0.heap.size F gt (.pointer (some ⟨gf,0,none⟩)) { tx0 s with nodes:=s.nodes.set 1 (upN N),dirty:=[(2,.bool true)] } T ->
   Calls Tryz.prog 62 #[.pointer (some ⟨gt,0,none⟩),.int .i64 1,.string name,.int .i64 2] W
    (fun e w'=>e=.returned (.int .i64 0)/\qbg W0.heap.size F gt (.pointer (some ⟨gf,0,none⟩)) (qie s X (upN N) D' y) T W w')):=fun W0 W gt T hW0 hW hT=>by
  exact ybgj (h.below hW0) hW hT (fun i hi=>Nat.lt_of_lt_of_le (h.fin i hi) (Nat.le_trans hW0.size hW.size)) 0 (by omega) X hXA hm.hP hm.hPl hm.hs (name,2) D D' hm.hD hm.hDB hm.hok hm.hput hm.hD' hm.hD5 hm.hg hm.hn y hm.hy (by show (0:Nat)<800;omega) (by show (1:Nat)<900;omega)
 have HEND:Hid (∀ (W0 W:World) (gt:Nat) (T:Nat->Prop),Below w.heap.size w W0->Below W0.heap.size W0 W->TxAt W W0.heap.size F gt (.pointer (some ⟨gf,0,none⟩)) (qie s X (upN N) D' y) T ->
   Calls Tryz.prog 54 #[.pointer (some ⟨gt,0,none⟩)] W
    (fun e w'=>e=.returned (.int .i64 0)/\FsAt w' gf (qyx s X N D' y) F B a/\qab F W0 w')):=fun W0 W gt T hW0 hW hT=>by
  refine ybgi (h.below hW0) hW hT (fun _ hi=>hi) hm.hrows rfl hm.hny p0 hm.hp0 hm.hp1 hm.hp2 true true rfl rfl rfl (fun k h1 h2=>?_) { X with P:=y.P,s:=(D'.length:Int) } (upN N) ?_ ?_ hm.hr0 hm.hr1 hm.hl0 hm.hl1 (fun p hp=>by cases hp) hm.hr (by show qda s.rows=0;rw[hm.hrows];rfl) (Nat.le_trans hB hW0.size) (by have:=h.k0;omega) hm.hlen
  ·constructor
   ·show getZ [((1:Int),Value.bool true),(2,.bool true)] _=none
    unfold getZ;rw[if_neg (by omega)];unfold getZ;rw[if_neg (by omega)];rfl
   ·show getZ [((1:Int),Value.bool true),(2,.bool true)] _=none
    unfold getZ;rw[if_neg (by omega)];unfold getZ;rw[if_neg (by omega)];rfl
  ·show ((s.nodes.set 1 _).set 0 _)[0]? = _
   rw[List.getElem?_set_self (by rw[List.length_set];omega)]
  ·show ((s.nodes.set 1 _).set 0 _)[1]? = _
   rw[List.getElem?_set_ne (by omega)];exact hN1
 obtain⟨l,Hl⟩:∃ l,Hid (N.l=l):=⟨_,rfl⟩
 have hl1:0<l/\l<200:=by rw[<-Hl.out];exact hm.lN
 rw[Hl.out]at HND
 have b0:(l == 0)=false:=by simpa using (by omega:l ≠ 0)
 have b200:(l == 200)=false:=by simpa using (by omega:l ≠ 200)
 have iw:IntKind.i64.wrap (l+1)=l+1:=IntWalk.i64_in _ (by omega)
 have HKN:Hid (N.k=1):=hm.kN
 clear h hm hlen32 hXA hN1
 obtain⟨gn,on,cn,c195,hgn,e0,e5⟩:=HND.out w (Below.refl _ _)
 go_enter Tryz.func21,Tryz.ntmps21
 go_wp2_with fail
 refine (HNM.out w).mono ?_
 rintro e w0 ⟨rfl,rfl⟩
 go_wp2_with fail
 refine (HTH.out w (Below.refl _ _)).mono ?_
 rintro e w0 ⟨rfl,rfl⟩
 go_wp2_with fail
 refine (HPL.out w (Below.refl _ _)).mono ?_
 rintro e w1 ⟨rfl,hb1⟩
 have HB1:=Lib.hid hb1
 clear hb1 c195 hgn e0 e5
 obtain⟨gn,on,cn,c195,hgn,e0,e5⟩:=HND.out w1 HB1.out
 go_wp2_with fail
 refine (HPL.out w1 HB1.out).mono ?_
 rintro e w3 ⟨rfl,hb3⟩
 have HB3:Hid (Below w.heap.size w w3):=Below.step HB1.out hb3
 clear hb3 c195 hgn e0 e5
 have HBG:=Lib.hid (qmn (H.out.below HB3.out))
 go_wp2_with fail
 refine HBG.out.mono ?_
 rintro e w4 ⟨gt,T,rfl,hb4,hT⟩
 have HB4:=Lib.hid hb4
 have HT:=Lib.hid hT
 have HNO:=Lib.hid (qkh hT 1 (by omega) N HM.out.hN)
 rw[HKN.out,Hl.out]at HNO
 clear hb4 hT
 go_wp2_with fail
 refine HNO.out.mono ?_
 rintro e w5 ⟨q,n,c,rfl,hnv,hb5⟩
 have HNV:=Lib.hid hnv
 have HB5:=Lib.hid hb5
 obtain⟨gb,Hgb⟩:∃ x,Hid (w5.heap.size=x):=⟨_,rfl⟩
 have HR6:Hid ((w5.alloc (.cells #[.int .i64 1,.int .i64 N.m,.int .i64 N.u,.int .i64 N.g,.int .i64 N.s,.int .i64 l,.int .i64 N.up,.slice q n c] 103)).heap[gb]? = some (.cells #[.int .i64 1,.int .i64 N.m,.int .i64 N.u,.int .i64 N.g,.int .i64 N.s,.int .i64 l,.int .i64 N.up,.slice q n c] 103 (0,0))):=by rw[<-Hgb.out];exact heap_alloc_new _ _
 have HB56:Hid (Below w5.heap.size w5 (w5.alloc (.cells #[.int .i64 1,.int .i64 N.m,.int .i64 N.u,.int .i64 N.g,.int .i64 N.s,.int .i64 l,.int .i64 N.up,.slice q n c] 103))):=(Below.refl _ _).alloc (Nat.le_refl _) _
 have hgw:w5.heap.size<=gb:=by rw[<-Hgb.out];exact Nat.le_refl _
 clear hnv hb5
 have s5:=(qag HR6.out).2.2.2.2.2.1
 have z5:(w5.alloc (.cells #[.int .i64 1,.int .i64 N.m,.int .i64 N.u,.int .i64 N.g,.int .i64 N.s,.int .i64 l,.int .i64 N.up,.slice q n c] 103)).frozen? ⟨gb,5,none⟩=false:=frozen_of_row _ _ _ _ _ HR6.out
 have HR7:Hid ((w5.alloc (.cells #[.int .i64 1,.int .i64 N.m,.int .i64 N.u,.int .i64 N.g,.int .i64 N.s,.int .i64 (l+1),.int .i64 N.up,.slice q n c] 103)).heap[w5.heap.size]? = some (.cells #[.int .i64 1,.int .i64 N.m,.int .i64 N.u,.int .i64 N.g,.int .i64 N.s,.int .i64 (l+1),.int .i64 N.up,.slice q n c] 103 (0,0))):=heap_alloc_new _ _
 have HB57:Hid (Below w5.heap.size w5 (w5.alloc (.cells #[.int .i64 1,.int .i64 N.m,.int .i64 N.u,.int .i64 N.g,.int .i64 N.s,.int .i64 (l+1),.int .i64 N.up,.slice q n c] 103))):=(Below.refl _ _).alloc (Nat.le_refl _) _
 obtain⟨m0,m1,m2,m3,m4,m5,m6,m7⟩:=qag HR7.out
 rw[<-Hgb.out]at s5 z5
 have HT5:=Lib.hid (HT.out.below HB5.out)
 have hset:=qtc (HT5.out.below HB57.out) 1 (by omega) (upN N) q n c (HNV.out.below HB57.out) (by show (0:Nat)<900;omega)
 have HSET:Hid (Calls Tryz.prog 53 #[.pointer (some ⟨gt,0,none⟩),.int .i64 2,.agg #[.int .i64 1,.int .i64 N.m,.int .i64 N.u,.int .i64 N.g,.int .i64 N.s,.int .i64 (l+1),.int .i64 N.up,.slice q n c]] (w5.alloc (.cells #[.int .i64 1,.int .i64 N.m,.int .i64 N.u,.int .i64 N.g,.int .i64 N.s,.int .i64 (l+1),.int .i64 N.up,.slice q n c] 103))
   (fun e w'=>e=.returned (.tuple #[])/\qbg w3.heap.size F gt (.pointer (some ⟨gf,0,none⟩)) { tx0 s with nodes:=s.nodes.set 1 (upN N),dirty:=[(2,.bool true)] } T (w5.alloc (.cells #[.int .i64 1,.int .i64 N.m,.int .i64 N.u,.int .i64 N.g,.int .i64 N.s,.int .i64 (l+1),.int .i64 N.up,.slice q n c] 103)) w')):=by
  have e:(Calls Tryz.prog 53 #[.pointer (some ⟨gt,0,none⟩),.int .i64 (((1:Nat):Int)+1),.agg #[.int .i64 N.k,.int .i64 N.m,.int .i64 N.u,.int .i64 N.g,.int .i64 N.s,.int .i64 (N.l+1),.int .i64 N.up,.slice q n c]] _ _):=hset
  rw[HKN.out,Hl.out]at e
  exact e
 have HT7:=Lib.hid (HT5.out.below HB57.out)
 have HB47:Hid (Below w3.heap.size w3 (w5.alloc (.cells #[.int .i64 1,.int .i64 N.m,.int .i64 N.u,.int .i64 N.g,.int .i64 N.s,.int .i64 (l+1),.int .i64 N.up,.slice q n c] 103))):=(HB4.out.trans (HB5.out.mono HB4.out.size)).trans (HB57.out.mono (Nat.le_trans HB4.out.size HB5.out.size))
 clear hset
 go_wp2_with fail
 refine HSET.out.mono ?_
 rintro e w8 ⟨rfl,d8⟩
 have HO8:=Lib.hid (d8.old HB47.out HT7.out)
 obtain⟨T8,t8,u8,v8,k8⟩:=d8
 have HE8:=Lib.hid (HENT.out w3 w8 gt T8 HB3.out HO8.out t8)
 have HT8:=Lib.hid t8
 clear t8 u8 v8 k8 s5 z5 m0 m1 m2 m3 m4 m5 m6 m7
 go_wp2_with fail
 refine HE8.out.mono ?_
 rintro e w9 ⟨rfl,d9⟩
 have HO9:=Lib.hid (d9.old HO8.out HT8.out)
 obtain⟨T9,t9,u9,v9,k9⟩:=d9
 have HE9:=Lib.hid (HEND.out w3 w9 gt T9 HB3.out HO9.out t9)
 clear t9 u9 v9 k9
 go_wp2_with fail
 refine HE9.out.mono ?_
 rintro e w10 ⟨rfl,h10,k10⟩
 have H10:=Lib.hid h10
 have HK10:Hid (qab F w w10):=(qab.of_below HB3.out).step k10
 clear h10 k10
 go_wp2
 go_ret
 exact⟨rfl,H10.out,HK10.out⟩
theorem qdl {w:World} {B:Nat} {v:Value} {n:Nat} {xs:List Value} (h:w.ownsRow B 3 1 v n xs) (b:Nat) (hb:v.ownBlock=some b):∃ cur,w.heap[b]? = some (.cells cur 3 (0,0)):=by
 obtain⟨_,⟨hv,_⟩ | ⟨g,c,cur,hv,h1,h2,h3,h4,h5,h6⟩⟩:=h
 ·subst hv;cases hb
 ·subst hv
  have e:g=b:=by simpa[Value.ownBlock]using hb
  subst e
  exact⟨cur,h2⟩
theorem qbp.addGone {w w':World} {B:Nat} {F T:Nat->Prop} {gt:Nat} {fp:Value} {x:Tx} {rv:Value} {gn cn gd gp:Nat} {gv:Value} {E:List Nd} {pl:List (Int × Value)} (h:qbp w B F T gt fp x rv gn cn gd gp gv E pl) (hx:TxAt w B F gt fp x T) (p:Int) (g' cap':Nat)
  (hk:qab (fun i=>i=gt\/gv.ownBlock=some i) w w') (hr:w'.heap[gt]? = some (.cells (txR fp x.fo rv (.slice (some ⟨gn,0,none⟩) 32 cn) (.map (some gd)) (.map (some gp)) (.slice (some ⟨g',0,none⟩) (x.gone.length+1) cap') x.full x.fake) 114 (0,0)))
  (ho:w'.ownsRow B 3 1 (.slice (some ⟨g',0,none⟩) (x.gone.length+1) cap') (x.gone.length+1) (ints (x.gone++[p]))) (hg:gv.ownBlock=some g'\/w.heap.size<=g') (hl:x.gone.length<1000):
  qbg B F gt fp { x with gone:=x.gone++[p] } T w w':=by
 have hkT:qab T w w':=hk.mono fun i _ hi=>by
  rcases hi with rfl | hi
  ·exact hx.self
  ·exact h.tg i hi
 have hb:∀ b,b<w.heap.size->b ≠ gt->gv.ownBlock ≠ some b->w'.heap[b]? = w.heap[b]? :=fun b h1 h2 h3=>hk.block b h1 (fun hc=>hc.elim h2 h3)
 have hT:∀ i,(T i\/i=g')->T i\/w.heap.size<=i:=fun i hi=>by
  rcases hi with hi | rfl
  ·exact Or.inl hi
  ·exact hg.imp (h.tg i) id
 have hlt:g'<w'.heap.size:=(ho.lt g' rfl).2
 have hge:B<=g':=(ho.lt g' rfl).1
 refine⟨fun i=>T i\/i=g',?_,hT,hkT,fun i hi=>Or.inl hi⟩
 refine qbp.at (x:={ x with gone:=x.gone++[p] }) (rv:=rv) (gn:=gn) (cn:=cn) (gd:=gd) (gp:=gp) (gv:=.slice (some ⟨g',0,none⟩) (x.gone.length+1) cap') (E:=E) (pl:=pl) ⟨hr,ybak h.rows hkT hT,?_,ybjs h.nds hkT hT,?_,?_,?_,h.ne,?_,Or.inl h.tn,Or.inl h.td,Or.inl h.tp,fun b hb2=>Or.inr ?_⟩ (Or.inl hx.self) hx.len (fun i hi=>?_) (fun i hi=>?_) ?_ hx.put hx.dirty hx.rows hx.fake
 ·refine qbi h.own fun b hb2=>hb b (h.own.lt b hb2).2 (qef h.own h.row (by decide) b hb2) fun hc=>?_
  obtain⟨cur,hcur⟩:=qdl h.gone b hc
  exact qef h.own hcur (by decide) b hb2 rfl
 ·refine h.dirt.of_block (hb gd h.dirt.lt (Ne.symm (qaj h.row h.dirt)) fun hc=>?_)
  obtain⟨cur,hcur⟩:=qdl h.gone gd hc
  exact qaj hcur h.dirt rfl
 ·refine h.puts.of_block (hb gp h.puts.lt (Ne.symm (qaj h.row h.puts)) fun hc=>?_)
  obtain⟨cur,hcur⟩:=qdl h.gone gp hc
  exact qaj hcur h.puts rfl
 ·refine h.secs.keep fun g cc _ hc=>hb g (qac hc) (qam hc h.row (by decide)) fun hd=>?_
  obtain⟨cur,hcur⟩:=qdl h.gone g hd
  exact qam hc hcur (by decide) rfl
 ·show w'.ownsRow B 3 1 _ (x.gone++[p]).length (ints (x.gone++[p]))
  rw[List.length_append]
  exact ho
 ·simpa[Value.ownBlock,eq_comm]using hb2
 ·rcases hi with hi | rfl
  ·exact Nat.lt_of_lt_of_le (hx.fin i hi) hk.size
  ·exact hlt
 ·rcases hi with hi | rfl
  ·exact hx.new i hi
  ·exact hge
 ·show (x.gone++[p]).length<=1000
  rw[List.length_append]
  exact hl
end Go.Proofs.YtpoglnpjadmbpaaGreatDoor
