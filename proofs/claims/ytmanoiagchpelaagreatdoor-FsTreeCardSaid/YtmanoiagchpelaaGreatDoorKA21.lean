import Derived.Test.YtmanoiagchpelaaGreatDoorKA4
import Derived.Test.YtmanoiagchpelaaGreatDoorKA9
import Derived.Test.YtmanoiagchpelaaGreatDoorKA13
import Derived.Test.YtmanoiagchpelaaGreatDoorKA17
set_option maxHeartbeats 0
set_option linter.all false
set_option maxRecDepth 100000
namespace Go.Proofs.YtmanoiagchpelaaGreatDoor
open Go.Proofs.Tryz Go.RowKit
variable {A B:List Nat} {E:List Nd} {G G':Nat->Prop} {N:Nat->List Int} {S:Array Value} {e:Nd} {j k n:Nat} {r:Rdr} {v:Value} {w w1 w2 wr:World} {xs:List Value}
def Out (G:Nat->Prop) (w:World) (φ:World->Prop):Prop:=∀w',yQ G w w'->φ w'
section
variable {G G' : Nat->Prop} {w w1 : World} {φ ψ : World->Prop}
theorem Out.now (h:Out G w φ):φ w:=h w (yQ.refl _ _)
theorem Out.keep (h:Out G w φ) (k:yQ G w w1):Out G w1 φ:=fun a b=>h a (k.step b)
theorem Out.below (h:Out G w φ) (k:Below w w w1):Out G w1 φ:=h.keep (yQ.of_below k)
theorem Out.grow (h:Out G w φ) (c:∀i,i<w.heap.size->G' i->G i):Out G' w φ:=fun a b=>h a (b.mono c)
theorem Out.mono (h:Out G w φ) (f:∀w',φ w'->ψ w'):Out G w ψ:=fun w' a=>f w' (h w' a)
end
theorem ZU {w':World} (h:wh w v k n xs) (m:∀b,v.ownBlock=some b->b<w.heap.size->w'.heap[b]?=w.heap[b]?):wh w' v k n xs:=by obtain⟨f,e⟩:=h;refine⟨f,e.imp id ?_⟩;rintro ⟨g,a,c,rfl,i⟩;refine⟨g,a,c,rfl,fun j x l=>?_⟩;have d:=i j x l;exact (uD (m g rfl (zG d))).trans d
theorem ZI (h:wh w v k n xs) (e:∀b,v.ownBlock=some b->b<w.heap.size->¬G b):Out G w (fun w'=>wh w' v k n xs):=
 fun _ c=>ZU h fun b d a=>c.block b a (e b d a)
theorem fq {base:Nat} {e:TypeId} {size:Nat} (h:w.ownsRow base e size v n xs) (d:∀b,v.ownBlock=some b->¬G b):Out G w (fun w'=>w'.ownsRow base e size v n xs):=
 fun _ c=>tw h fun q a=>c.block q (h.lt q a).2 (d q a)
structure Pn where
 k:Int
 m:Int
 u:Int
 g:Int
 s:Int
 l:Int
 up:Int
 P:List Int
def zN : Pn:=⟨0,0,0,0,0,0,0,[]⟩
def NdIs (G:Nat->Prop) (w:World) (e:Nd) (x:Pn):Prop:=
 e.k=x.k/\e.m=x.m/\e.u=x.u/\e.g=x.g/\e.s=x.s/\e.l=x.l/\e.up=x.up/\Out G w (fun w'=>vT w' (e.q,e.n,e.c) x.P)
theorem NdIs.keep {x:Pn} (h:NdIs G w e x) (k:yQ G w w1):NdIs G w1 e x:=by obtain⟨f,c,j,d,i,a,g,b⟩:=h;exact⟨f,c,j,d,i,a,g,b.keep k⟩
theorem NdIs.grow {x:Pn} (h:NdIs G w e x) (l:∀i,i<w.heap.size->G' i->G i):NdIs G' w e x:=by obtain⟨f,c,k,d,j,a,g,b⟩:=h;exact⟨f,c,k,d,j,a,g,b.grow l⟩
def tZ (G:Nat->Prop) (w:World) (E:List Nd) (L:List Pn):Prop:=E.length=L.length/\∀i (h) (h':i<L.length),NdIs G w E[i] L[i]
theorem tZ.keep {L:List Pn} (h:tZ G w E L) (k:yQ G w w1):tZ G w1 E L:=⟨h.1,fun i a b=>(h.2 i a b).keep k⟩
theorem tZ.grow {L:List Pn} (h:tZ G w E L) (c:∀i,i<w.heap.size->G' i->G i):tZ G' w E L:=⟨h.1,fun i a b=>(h.2 i a b).grow c⟩
theorem tZ.snoc {L:List Pn} {x:Pn} (h:tZ G w E L) (f:NdIs G w e x):tZ G w (E++[e]) (L++[x]):=by
 refine⟨by simp[h.1],fun i c d=>?_⟩;by_cases a:i<E.length
 .rw[List.getElem_append_left a,List.getElem_append_left (by rw[<-h.1];exact a)];exact h.2 i a (by rw[<-h.1];exact a)
 .have b:i=E.length:=by simp at c;omega
  subst b;rw[ZA zL,ZA (by rw[h.1];exact zL)];simpa using f
theorem tZ.set {L:List Pn} {x:Pn} (h:tZ G w E L) (d:NdIs G w e x) (j):tZ G w (E.set j e) (L.set j x):=by
 refine⟨by simp[h.1],fun i b c=>?_⟩;rw[List.getElem_set,List.getElem_set];by_cases a:j=i
 .rw[ze a,ze a];exact d
 .rw[zb a,zb a];exact h.2 i (by simpa using b) (by simpa using c)
theorem tZ.nil (G) (w):tZ G w [] []:=⟨rfl,fun i h=>by simp at h⟩
theorem TQ {B:Nat} {P:List Int} (h:gI B w v P) (e:∀i,i<w.heap.size->G i->i<B):Out G w (fun w'=>vT w' v P):=
 ZI h.1 fun b d c a=>by have:=h.2 b d;have:=e b c a;omega
def pnOf (bs:List Int):Pn:=⟨bs.getD 0 0,bs.getD 1 0+bs.getD 2 0*256,bs.getD 3 0,bs.getD 4 0,bs.getD 5 0+bs.getD 6 0*256,bs.getD 7 0,bs.getD 8 0,ptsN bs⟩
def half (D:List Int) (i:Nat):List Int:=(D.drop (32*i)).take 32
def nn (N:Nat->List Int) (nd:Nat->Int) (j:Nat):List Int:=half (N (nd (j / 2)).toNat) (j%2)
def sY (N:Nat->List Int) (nd:Nat->Int) (n:Nat):List Pn:=(List.range n).map fun j=>pnOf (nn N nd j)
theorem Nw (N) (nd) (n):sY N nd (n+1)=sY N nd n++[pnOf (nn N nd n)]:=by unfold sY;rw[vI,yy];rfl
theorem Kx (N) (nd) (n):(sY N nd n).length=n:=by simp[sY]
theorem Ym: (prog.info? 123).map (fun i=>(i.zero,i.size,i.bytes))=some (some (.agg #[(),(),(),(),(),(),(),.slice none 0 0]),8,80):=by kernel_rfl
theorem ndsT: prog.underlying 108=some (.slice 123):=by kernel_rfl
theorem La (E) (e):uG (E++[e])=uG E++nd8 e:=by unfold uG;rw[vt];simp
def jy (N:Nat->List Int) (nd:Nat->Int) (k:Nat):Prop:=(∀j,j<16->0<=nd j/\nd j<k)/\∀j,j<32->mh (nn N nd j)
def mn (w:World) (o:Value):Nat->Prop:=fun i=>i<w.heap.size\/o.ownBlock=some i
def ja (w:World) (v:Value) (L:List Pn) (w':World):Prop:=∃E,w'.ownsRow (w.heap.size+1) 123 8 v L.length (uG E)/\tZ (mn w v) w' E L/\Below w w w'
theorem Mk {g cap:Nat} {cur:Array Value} {D:List Int} (h:D.length=64) (d:w.heap[g]?=some (.cells cur 5)) (f:cur.toList.take 64=u8s D) (i) (k:i<2):
 vQ w (.slice (some ⟨g,32*i,none⟩) 32 cap) (half D i):=by
 have b:(half D i).length=32:=by unfold half;rw[zj,yB];omega
 refine⟨by rw[uo,uq],zu ⟨g,32*i,cap,by rw[b],fun j x c=>?_⟩⟩;have a:=(zJ.1 c).1;rw[uo,b]at a;rw[zC d,<-zO];have e:cur.toList[32*i+j]?=(u8s D)[32*i+j]? :=by rw[<-f,zI,ze (by omega)]
 rw[e,<-c];unfold half;rw[oV,mL,zI,ze a,yw]
theorem S9 (h:RdAt w r N k) (nd) (A) (af:Hid (A.size=48)) (_HA1:Hid (A.all (·.oneCell')=true)) (ag:Hid (∀j,j<16->A[j]?=some (.int .i64 (nd j)))) (ae:jy N nd k):
 Calls prog 77 #[.iface r.T r.u,.agg A] w
  (fun e w'=>∃v,e=.returned (.tuple #[v,()])/\ja w v (sY N nd 32) w'):=by
 have q1:=h.n1;have q2:=h.m1;have q3:=h.c1;have HR:=za h;have V:=za ae;clear h ae;obtain⟨i0,av,ak,az,ap⟩:=xy Ym;have bb:=za av;have aG:=za ak;have aB:=za az;have aJ:=za ap;clear av ak az ap;obtain⟨NN,au⟩:∃N:Array Value,Hid (N=(A.toList.take 16).toArray):=⟨_,rfl⟩;have ab:Hid (NN.size=16):=by show _=_;rw[au.o];have:=af.o;simp;omega
 have an:Hid (∀j,j<NN.size->A[0+j]?=NN[j]?):=fun j hj=>by rw[ab.o]at hj;rw[au.o,yO,<-zO,xM,zI,ze hj]
 go_enter func77,ntmps77
 go_wp2_with (refine pZ (by kernel_rfl) 100 (.tmp 14) rfl w 0 rfl 104 A NN (0,0) _ (zH) an.o lz rfl (by rw[ab.o];exact lj) ?_)
 have U:Hid (Below w w (w.alloc (.cells A 104))):=zB.alloc zL _;have ai:Hid ((w.alloc (.cells A 104)).heap.size=w.heap.size+1):=by show _=_;simp
 generalize w.alloc (.cells A 104)=w1 at *
 go_loopw [6,16] (fun o i wr=>∃(j:Nat) (E:List Nd),j<=16/\i=.int .i64 j/\Hid (wr.ownsRow (w.heap.size+1) 123 8 o (2*j) (uG E))/\Hid (tZ (mn w o) wr E (sY N nd (2*j)))/\Hid (Below w1 w1 wr)) (fun _ i _=>16-(intOf i).toNat)
 case atStart=>exact⟨0,[],ye _,rfl,xd _ _ _ _,tZ.nil _ _,zB⟩
 case round=>
  obtain⟨j,E,hj,rfl,Q,HE,HB⟩:=hrel;by_cases I:j<16
  .have a1:(j:Int)<16:=(by omega);obtain⟨y,Hy⟩:∃y:Nat,Hid (nd j=(y:Int)):=⟨(nd j).toNat,by show _=_;have:=V.o.1 j I;omega⟩;have ac:y<k:=(by have:=V.o.1 j I;have:=Hy.o;omega);have aw:∀W,(Instr.index 100 (.agg NN) (.int .i64 j)).run prog W=.ok (.int .i64 y) W:=fun W=>
    V0 _ _ 16 .i64 NN .i64 (j:Int) lz intT intS (by omega) (by omega) _ (by have L:=an.o j (by rw[ab.o];exact I);rw[yz,<-L,yO,ag.o j I,Hy.o]) W
   have am:=za (HR.o.read wr (zf U.o HB.o) y ac);have X:=za (HR.o.len y ac);have aP:=za (HR.o.byte y ac);go_wp2_with fail
   refine am.o.mono ?_;rintro e w3 ⟨v3,rfl,aL⟩;obtain⟨g3,bh,R,rfl,B,ax,aa,C⟩:=aL;rw[X.o]at B aa ⊢;have aH:=za ax;have bd:=za aa;have bv:=za C;have ao:=za (zf HB.o C);have aX:=za (tB Q.o C);have aK:=za (HE.o.keep (yQ.of_below C));have bo:=B.2;clear ax aa C Q HE am aw;go_wp2;go_loopw [6,27] (fun o i wq=>∃(a:Nat) (E:List Nd),a<=2/\i=.int .i64 a/\Hid (wq.ownsRow (w.heap.size+1) 123 8 o (2*j+a) (uG E))/\Hid (tZ (mn w o) wq E (sY N nd (2*j+a)))/\Hid (Below w1 w1 wq)/\Hid (wq.heap[g3]?=some (.cells R 5))) (fun _ i _=>2-(intOf i).toNat);case atStart=>exact⟨0,E,ye _,rfl,aX.o,aK.o,ao.o,aH.o⟩
   case round=>
    obtain⟨a,E2,ha,rfl,Q,HE,D,ar⟩:=hrel;by_cases aS:a<2
    .have al:(a:Int)<2:=(by omega);have aj:Hid (nn N nd (2*j+a)=half (N y) a):=(by show _=_;unfold nn;rw[show (2*j+a) / 2=j by omega,show (2*j+a)%2=a by omega,Hy.o];rfl);have Y:Hid ((half (N y) a).length=32):=(by show _=_;unfold half;rw[zj,yB,X.o];omega);have HG:Hid (mh (half (N y) a)):=(by show _;rw[<-aj.o];exact V.o.2 (2*j+a) (by omega));have ba:Hid (∀x∈half (N y) a,0<=x/\x<=255):=fun x hx=>aP.o x (wd (yY hx));have aT:=za (Nw N nd (2*j+a));have i1:=zW (32*a) (by omega);have i2:=zW (a+1) (by omega);have i3:=zW (32*(a+1)) (by omega);have a9:=za (fun c=>Mk (cap:=c) X.o ar.o bd.o a aS);go_wp2_with fail
     rw[show 32*(a+1)-32*a=32 by omega];refine (MR _ (half (N y) a) wr (a9.o _) (by rw[Y.o];omega) ba.o ⟨_,_,by rw[Y.o],by rw[Y.o];omega⟩).mono ?_;rintro e H (⟨_,v5,rfl,hI,M⟩|⟨a7,_⟩);case inr=>exact zY HG.o a7
     obtain⟨G,F,ad⟩:=Md hI.1 _ rfl;obtain⟨g,s,f,p,l,m,z,P,HX⟩:∃g s f p l m z P,Hid (pnOf (half (N y) a)=⟨g,s,f,p,l,m,z,P⟩):=⟨_,_,_,_,_,_,_,_,rfl⟩;have ay:=HX.o;unfold pnOf at ay;injection ay with e0 e1 e2 e3 e4 e5 e6 e7;rw[e0,e1,e2,e3,e4,e5,e6];rw[e7]at hI ad;obtain⟨n,HN⟩:=zD P.length;rw[HN.o]at ad;subst ad;have HI:=za hI;have K:=za M;have aE:=za (tB Q.o M);have aq:=za (HE.o.keep (yQ.of_below M));have aC:Hid (NdIs (mn w u6) H ⟨g,s,f,p,l,m,z,G,n,F⟩ (pnOf (half (N y) a))):=by
      rw[HX.o];exact⟨rfl,rfl,rfl,rfl,rfl,rfl,rfl,TQ hI fun i _ Z=>by
       rcases Z with Z|Z
       .have L:=U.o.size;have h3:=D.o.size;omega
       .exact (Q.o.lt i Z).2⟩
     clear hI M e0 e1 e2 e3 e4 e5 e6 e7;obtain⟨nE,bc⟩:=zD E2.length;have aW:nE=2*j+a:=(by rw[<-bc.o,aq.o.1,Kx]);subst aW;have aA:=za (zt (vM ai.o.symm) (zt D.o.size K.o.size));have J:Hid (Below H H ((H.alloc (.cells #[g,s,f,p,l,m,z,(G,n,F)] 123)).alloc (.cells #[g,s,f,p,l,m,z,(G,n,F)] 123))):=(zB.alloc zL _).alloc (by simp) _;have a2:=za (tB aE.o J.o);have a8:Hid (((H.alloc (.cells #[g,s,f,p,l,m,z,(G,n,F)] 123)).alloc (.cells #[g,s,f,p,l,m,z,(G,n,F)] 123)).heap[H.heap.size+1]?=some (.cells #[g,s,f,p,l,m,z,(G,n,F)] 123)):=jV _ _ _ (by simp);go_wp2_with (at_builtin;refine wpList_append_own_at _ rfl _ _ 108 rfl (w.heap.size+1) 123 i0 (.agg #[(),(),(),(),(),(),(),.slice none 0 0]) 8 80 ndsT bb.o aG.o aB.o aJ.o rfl (by decide) _ _ _ rfl a2.o ⟨H.heap.size+1,0,none⟩ 1 1 [.int .i64 g,.int .i64 s,.int .i64 f,.int .i64 p,.int .i64 l,.int .i64 m,.int .i64 z,.slice G n F] rfl rfl (xE (cs:=#[.int .i64 g,.int .i64 s,.int .i64 f,.int .i64 p,.int .i64 l,.int .i64 m,.int .i64 z,.slice G n F]) (t:=123) (fr:=(0,0)) a8.o) (by simp[Value.oneCell']) (by unfold maxLen;omega) (by omega) (by have:=aA.o;simp;omega) ?_;intro v6 w6 S b _ O)
     have a6:Hid (∀i,i<H.heap.size->mn w v6 i->mn w u6 i):=fun i Z d=>by
      rcases d with d|d
      .exact zr d
      .rcases O with hl|hl
       .exact zu (hl▸d)
       .rw[hl]at d;injection d with d;have:H.heap.size<=i:=(by rw[<-d];simp;omega);omega
     have aR:Hid (yQ (fun i=>mn w u6 i\/mn w v6 i) H w6):=((yQ.of_below J.o).step (yQ.grown b (fun q hq=>zr (zu hq))));have aN:Hid (tZ (mn w v6) w6 (E2++[⟨g,s,f,p,l,m,z,G,n,F⟩]) (sY N nd (2*j+(a+1)))):=(by have L:=(aq.o.snoc aC.o).grow (G':=fun i=>mn w u6 i\/mn w v6 i) (fun i Z d=>d.elim id (a6.o i Z));have h2:=(L.keep aR.o).grow (G':=mn w v6) (fun i _ d=>zu d);show tZ _ _ _ (sY N nd (2*j+a+1));rw[aT.o,aj.o];exact h2);have aM:Hid (w6.ownsRow (w.heap.size+1) 123 8 v6 (2*j+(a+1)) (uG (E2++[⟨g,s,f,p,l,m,z,G,n,F⟩]))):=(by rw[La];exact S);have aF:=za (xB (zf (zf D.o K.o) J.o) b (by have L:=D.o.size;have h2:=K.o.size;simp;omega) (fun q hq=>by rw[ai.o];exact (Q.o.lt q hq).1));have aQ:Hid (w6.heap[g3]?=some (.cells R 5)):=(by have L:=wy J.o (wy K.o ar.o);exact (b.block g3 (xR L) (fun hc=>qb a2.o L (by decide) hc.symm)).trans L);clear S b O;go_roundw;case rel=>exact⟨a+1,_,by omega,by go_num,aM,aN,aF,aQ⟩
     case measure=>simp[intOf];omega
    .obtain rfl:a=2:=(by omega);have aI:Hid (wr.ownsRow (w.heap.size+1) 123 8 u6 (2*(j+1)) (uG E2)):=Q.o;have aZ:Hid (tZ (mn w u6) wr E2 (sY N nd (2*(j+1)))):=HE.o;have al:¬((2:Nat):Int)<2:=(by omega);go_wp2;go_roundw;case rel=>exact⟨j+1,E2,by omega,by go_num,aI,aZ,D⟩
     case measure=>simp[intOf];omega
  .obtain rfl:j=16:=(by omega);have a1:¬((16:Nat):Int)<16:=(by omega);go_wp2;go_ret2;exact⟨_,rfl,E,by rw[Kx];exact Q.o,HE.o,zf U.o HB.o⟩
theorem X7 (f) (k j) (a:j<16):(encT f k)[j]?=some (.int .i64 (f.nd k j)):=by rw[Zj f k j (by omega)];unfold uU;rw[ze a]
theorem Xo (h:RdAt w r N k) (f) (t) (b:jy N (f.nd t) k):
 Calls prog 77 #[.iface r.T r.u,.agg (encT f t)] w
  (fun e w'=>∃v,e=.returned (.tuple #[v,()])/\ja w v (sY N (f.nd t) 32) w'):=
 S9 h (f.nd t) _ (oY f t) (Uh f t) (fun j a=>X7 f t j a) b
def sS (N:Nat->List Int):List Int:=N 1++(N 2++N 3)
def forN (N:Nat->List Int) (n:Nat):List Int:=((List.range n).map fun i=>N (1+i)).flatten
theorem OR (N) (n):forN N (n+1)=forN N n++N (1+n):=by unfold forN;rw[vI,yy,List.flatten_append];simp
theorem X1 (N):forN N 3=sS N:=by unfold forN sS;simp[vI]
structure jz (N:Nat->List Int) (f:Fo) (k:Nat):Prop where
 eq:encF (foB (sS N))=encF f
 right:qa (foB (sS N))=0
 root:vO f 0=true
 nds:∀t i,t<4->i<16->vO f t=true->37<=f.nd t i/\f.nd t i<(k:Int)
theorem RY (h:RdAt w r N k) (hk:16<=k) (f) (al:jz N f k) (A) (HA:Hid (A=encF f)):
 Calls prog 97 #[.iface r.T r.u] w (fun e w'=>e=.returned (.tuple #[.agg A,()])/\Below w w w'):=by
 have q1:=h.n1;have q2:=h.m1;have q3:=h.c1;have q4:=h.n2;have q5:=h.m2;have q6:=h.c2;have P:=za h;have L:=za al;clear h al;have s:Hid (A.size=192):=by rw[HA.o];exact uj f
 have ao:Hid (A.all (·.oneCell')=true):=by rw[HA.o];exact nx f
 have aB:Hid (∀(t:Nat) (W),t<4->Calls prog 76 #[.agg A,t] W fun e w'=>e=.returned (.bool (vO f t))/\Below W W w'):=fun t W ht=>by rw[HA.o];exact jN f t W ht
 obtain⟨z,aC⟩:=zA (encF tL);have HZ:Hid (∀w,(zeroValue 106).run prog w=.ok (.agg z) w):=by rw[aC.o];exact forZ
 have a9:Hid (z.size=192):=by rw[aC.o];exact uj _
 have aK:Hid (∀(v) (W),vQ W v (sS N)->iz v (sS N).length->Calls prog 145 #[v] W fun e w'=>e=.returned (.tuple #[.agg A,()])/\Below W W w'):=fun v W hb aM=>by
  have hl:(sS N).length=192:=by unfold sS;rw[zm,zm,P.o.len 1 (by omega),P.o.len 2 (by omega),P.o.len 3 (by omega)]
  have hu:U8s (sS N):=fun x J=>by
   unfold sS at J;rcases yo.1 J with J|J
   .exact P.o.byte 1 (by omega) x J
   .rcases yo.1 J with J|J
    .exact P.o.byte 2 (by omega) x J
    .exact P.o.byte 3 (by omega) x J
  have hU:unpF (sS N)=(foB (sS N),0):=by unfold unpF;rw[ze ⟨hl,L.o.right⟩]
  have:=ST v (sS N) W hb hu aM (by omega);rw[hU]at this;rw[HA.o,<-L.o.eq];exact this
 obtain⟨i0,a5,au,a8,a2⟩:=xy fW;have ba:=za a5;have aN:=za au;have aI:=za a8;have aR:=za a2;clear a5 au a8 a2;go_enter func97,ntmps97;go_wp2_with (refine oC rfl 106 rfl z HZ.o ?_)
 have ae:Hid (Below w w (w.alloc (.cells z 106))):=zB.alloc zL _;have aq:Hid ((w.alloc (.cells z 106)).heap.size=w.heap.size+1):=by show _=_;simp
 have aP:Hid ((w.alloc (.cells z 106)).heap[w.heap.size]?=some (.cells z 106)):=zH;generalize w.alloc (.cells z 106)=V at *
 go_loopw [4,13] (fun o i wr=>∃(j:Nat),j<=3/\i=.int .i64 j/\Hid (wr.ownsRow (w.heap.size+1) 5 1 o (64*j) (u8s (forN N j)))/\Hid (Below V V wr)) (fun _ i _=>3-(intOf i).toNat)
 case atStart=>exact⟨0,ye _,rfl,xd _ _ _ _,zB⟩
 case round=>
  obtain⟨j,hj,rfl,HO,HB⟩:=hrel;by_cases bk:j<3
  .have aD:(j:Int)<3:=(by omega);have i1:=zW (1+j) (by omega);have K:=za (P.o.read wr (zf ae.o HB.o) (1+j) (by omega));have M:=za (P.o.len (1+j) (by omega));have aw:=za (OR N j);rw[show ((1+j:Nat):Int)=1+(j:Int) by omega]at K;obtain⟨D,HD⟩:=zD (N (1+j));rw[HD.o]at K M aw;go_wp2_with fail
   refine K.o.mono ?_;rintro e w3 ⟨v3,rfl,aT⟩;obtain⟨g3,U,bf,rfl,E,a6,ag,ad⟩:=aT;rw[M.o]at E ag ⊢;have aO:=za (sJ.cell (_B:=w.heap.size+1) (_cap:=U) M.o a6 ag);have af:=za (zf HB.o ad);have aA:=za (tB HO.o ad);have aS:Hid ((u8s D).length=64):=(by show _=_;rw[uo,M.o]);have aJ:=za (mG D);have aG:=za (zt (vM aq.o.symm) af.o.size);clear a6 ag ad HO K E;go_wp2_with (at_builtin;refine yI _ rfl _ _ 56 rfl (w.heap.size+1) 5 i0 (.int .u8 0) 1 1 u8sT ba.o aN.o aI.o aR.o rfl (by decide) _ _ _ rfl aA.o ⟨g3,0,none⟩ 64 U (u8s D) rfl (by rw[aS.o]) aO.o aJ.o (by unfold maxLen;omega) (by omega) aG.o ?_;intro v5 w5 X H ap)
   have aL:Hid (w5.ownsRow (w.heap.size+1) 5 1 v5 (64*(j+1)) (u8s (forN N (j+1)))):=(by show _;rw[aw.o,pC,show 64*(j+1)=64*j+64 by omega];exact X);have aj:=za (xB af.o H af.o.size (fun q hq=>by rw[aq.o];exact (aA.o.lt q hq).1));clear X H ap;go_wp2;go_roundw;case rel=>exact⟨j+1,by omega,by go_num,aL,aj⟩
   case measure=>simp[intOf];omega
  .obtain rfl:j=3:=(by omega);have aD:¬((3:Nat):Int)<3:=(by omega);have ay:(sS N).length=192:=(by have:=HO.o.1;rw[uo,X1]at this;exact this);have aF:Hid (vQ wr u4 (sS N)):=(by have:=wh.of_owns HO.o;rw[X1,show 64*3=(sS N).length from ay.symm]at this;exact this);have aH:Hid (iz u4 (sS N).length):=fun p l c hu=>by
    rcases HO.o.2 with⟨_,h0⟩|⟨g,bt,bj,hv,_,_,hc,_⟩
    .omega
    .rw[hv]at hu;injection hu with _ _ h3;omega
   clear ay;go_wp2_with fail
   refine (aK.o u4 wr aF.o aH.o).mono ?_;rintro e C ⟨rfl,az⟩;have ac:=za (zf HB.o az);have a7:=za (wy ac.o aP.o);clear az;have a4:=L.o.root;have F:=za (aB.o 0);rw[a4]at F;have an:w.heap.size≠C.heap.size:=(by have:=xR a7.o;omega);have ak:Hid (((C.alloc (.cells z 106)).setRow C A).heap[C.heap.size]?=some (.cells A 106)):=yh _ _ _ _ _ _ (zH);have a0:Hid (((C.alloc (.cells z 106)).setRow C A).heap[w.heap.size]?=some (.cells z 106)):=jX (tA a7.o _) _ _ an;have aa:Hid (Below V V ((C.alloc (.cells z 106)).setRow C A)):=xI (zf ac.o (zB.alloc zL _)) ac.o.size _;clear a4;go_wp2_with (first
    | (refine oC rfl 106 rfl z HZ.o ?_)
    | (refine yG rfl 106 (.tmp 8) (.tmp 33) rfl C A rfl rfl 106 z (zH) (by rw[s.o];exact forI) (by rw[a9.o,s.o]) ao.o ?_)
    | (refine Ta (by kernel_rfl) 106 (.tmp 8) rfl C rfl 106 A (0,0) _ ak.o forT rfl (by rw[s.o];exact forI) ?_))
   generalize (C.alloc (.cells z 106)).setRow C A=w4 at *
   refine (F.o w4 (by omega)).mono ?_;rintro e w5 ⟨rfl,O⟩;have Z:=za (wy O ak.o);have av:=za (wy O a0.o);have aj:=za (zf aa.o O);obtain⟨ga,bb⟩:=zD C.heap.size;rw[bb.o]at Z an ⊢;clear O F ak a0 aa;go_wp2;go_loopw [43] (fun i wr=>∃t:Nat,t<=4/\i=.int .i64 t/\Hid (wr.heap[w.heap.size]?=some (.cells z 106))/\Hid (wr.heap[ga]?=some (.cells A 106))/\Hid (Below V V wr)) (fun i _=>4-(intOf i).toNat);case atStart=>exact⟨0,by omega,rfl,av,Z,aj⟩
   case round=>
    obtain⟨t,ht,rfl,d,b,m⟩:=hrel;by_cases ai:t<4
    .have ar:(t:Int)<4:=(by omega);have br:0<=(t:Int):=(by omega);obtain⟨NN,ah⟩:=zA (encN f t);have aW:Hid (NN.size=16):=(by rw[ah.o];exact Uz _ _);have aQ:Hid (∀j,j<NN.size->A[t*48+j]?=NN[j]?):=(by rw[ah.o,HA.o];exact K3 f t ai);go_wp2_with (refine pZ (by kernel_rfl) 100 (.tmp 48) rfl ga (t*48) rfl 106 A NN (0,0) _ b.o aQ.o lz rfl (by rw[aW.o];exact lj) ?_)
     go_loopw [50] (fun i wr=>∃a:Nat,a<=16/\i=.int .i64 a/\Hid (wr.heap[w.heap.size]?=some (.cells z 106))/\Hid (wr.heap[ga]?=some (.cells A 106))/\Hid (Below V V wr)) (fun i _=>16-(intOf i).toNat)
     case atStart=>exact⟨0,by omega,rfl,d,b,m⟩
     case round=>
      clear d b m;obtain⟨a,ha,rfl,d,b,m⟩:=hrel;by_cases ab:a<16
      .have a1:(a:Int)<16:=(by omega);obtain⟨y,Hy⟩:=zD (f.nd t a);have Y:∀W,(Instr.index 100 (.agg NN) (.int .i64 a)).run prog W=.ok (.int .i64 y) W:=fun W=>
        V0 _ _ 16 .i64 NN .i64 (a:Int) lz intT intS (by omega) (by omega) _ (by rw[yz,ah.o,Uj f t a ab,Hy.o.symm];unfold uU;rw[ze ab]) W
       have B:=za (fun W=>aB.o t W ai);cases I:vO f t with
       | true=>
        rw[I]at B;have aY:=L.o.nds t a ai ab I;rw[Hy.o]at aY;have b1:decide (y<37)=false:=zz (by omega);have b2:decide (k<=y)=false:=zz (by omega);have b3:decide (y >= k)=false:=zz (by omega);clear I;go_wp2_with (refine yS rfl 106 (.tmp 8) rfl ga rfl 106 A (0,0) _ b.o forT rfl (by rw[s.o];exact forI) ?_)
        refine (B.o wr).mono ?_;rintro e w6 ⟨rfl,n⟩;have Q:=za (wy n d.o);have S:=za (wy n b.o);have G:=za (zf m.o n);have a3:=za (P.o.size w6 (zf ae.o G.o));clear n B d b m Y;go_wp2_with fail
        refine a3.o.mono ?_;rintro e w7 ⟨rfl,R⟩;have aV:=za (wy R Q.o);have aZ:=za (wy R S.o);have aU:=za (zf G.o R);clear R Q S G a3;go_wp2;go_roundw;case rel=>exact⟨a+1,by omega,by go_num,aV,aZ,aU⟩
        case measure=>simp[intOf];omega
       | false=>
        rw[I]at B;clear I;go_wp2_with (refine yS rfl 106 (.tmp 8) rfl ga rfl 106 A (0,0) _ b.o forT rfl (by rw[s.o];exact forI) ?_)
        refine (B.o wr).mono ?_;rintro e w6 ⟨rfl,n⟩;have Q:=za (wy n d.o);have S:=za (wy n b.o);have G:=za (zf m.o n);clear n B d b m Y;go_wp2;go_roundw;case rel=>exact⟨a+1,by omega,by go_num,Q,S,G⟩
        case measure=>simp[intOf];omega
      .obtain rfl:a=16:=(by omega);have a1:¬((16:Nat):Int)<16:=(by omega);go_wp2;go_roundw;case rel=>exact⟨t+1,by omega,by go_num,d,b,m⟩
       case measure=>simp[intOf];omega
    .obtain rfl:t=4:=(by omega);have ar:¬((4:Nat):Int)<4:=(by omega);go_wp2_with (first
      | (refine yS rfl 106 (.tmp 8) rfl ga rfl 106 A (0,0) _ b.o forT rfl (by rw[s.o];exact forI) ?_)
      | (refine yG rfl 106 (.tmp 2) (.tmp 69) rfl w A rfl rfl 106 z d.o (by rw[s.o];exact forI) (by rw[a9.o,s.o]) ao.o ?_))
     refine yV (Ye rfl _ _ w 106 A (0,0) _ (.int .i64 0) rfl rfl (yh _ _ _ _ _ _ d.o) forT rfl (by rw[s.o];exact forI)) rfl ⟨rfl,?_⟩;exact xI (zf ae.o m.o) zL _
theorem XN (h:RdAt w r N k) (b:16<=k) (f) (a:jz N f k):
 Calls prog 97 #[.iface r.T r.u] w (fun e w'=>e=.returned (.tuple #[.agg (encF f),()])/\Below w w w'):=RY h b f a _ rfl
theorem YP (w) (n k) (E:37<=n) (G:n<k) (C:k<=256) (b4 b9 b7 b10) (S S2) (s) (z:Hid (S=enc s)) (y:Hid (S2=enc (ins s n))) (A:s n=false)
 (D:w.cell? ⟨b4,0,none⟩=some (.int .i64 k)) (B:Hid (w.heap[b9]?=some (.cells S 102))):
 Calls prog 187 #[.int .i64 n,.pointer (some ⟨b4,0,none⟩),.pointer (some ⟨b9,0,none⟩),.pointer (some ⟨b7,0,none⟩),.pointer (some ⟨b10,0,none⟩)] w
  (fun e w'=>e=.returned (.tuple #[])/\yQ (fun i=>i=b9) w w'/\w'.heap[b9]?=some (.cells S2 102)):=by
 have c:Hid (S.size=32):=by show _=_;rw[z.o];exact tP _
 have a:Hid (S2.size=32):=by show _=_;rw[y.o];exact tP _
 have l:Hid (S2.all (·.oneCell')=true):=by show _=_;rw[y.o];exact lW _
 have j:Hid (∀W,Calls prog 188 #[.agg S,n] W fun e w'=>e=.returned (.bool false)/\Below W W w'):=fun W=>by have:=iL s (n:Int) W (by omega) (by omega);rw[yz,A]at this;rw[z.o];exact this
 have b:Hid (∀W,Calls prog 106 #[.agg S,n] W fun e w'=>e=.returned (.agg S2)/\Below W W w'):=fun W=>by have:=iQ s (n:Int) W (by omega) (by omega);rw[yz]at this;rw[z.o,y.o];exact this
 have u:decide ((n:Int)<37)=false:=zz (by omega);have v:decide (k<=(n:Int))=false:=zz (by omega);have t:¬((n:Int)<37):=by omega
 have r:¬(k<=(n:Int)):=by omega
 clear A;go_enter func187,ntmps187;go_wp2_with (refine Ta (by kernel_rfl) 102 (.tmp 2) rfl b9 rfl 102 S (0,0) _ B.o setT rfl (by rw[c.o];exact setI) ?_)
 refine (j.o w).mono ?_;rintro e q ⟨rfl,f⟩;have g:=za (wy f B.o);have m:=za f;clear f D;go_wp2_with (refine yS rfl 102 (.tmp 2) rfl b9 rfl 102 S (0,0) _ g.o setT rfl (by rw[c.o];exact setI) ?_)
 refine (b.o q).mono ?_;rintro e x ⟨rfl,d⟩;have h:=za (wy d g.o);have p:=za (zf m.o d);clear d;go_wp2_with (refine yG rfl 102 (.tmp 2) (.tmp 21) rfl b9 S2 rfl rfl 102 S h.o (by rw[a.o];exact setI) (by rw[a.o,c.o]) l.o ?_)
 go_end0
 exact⟨rfl,(yQ.of_below p.o).step (yQ.setRow (F:=fun i=>i=b9) rfl _),yh _ _ _ _ _ _ h.o⟩
def rY (l:List Nat):Nat->Bool:=l.foldl ins emp
theorem IJ (l) (n):rY (l++[n])=ins (rY l) n:=by unfold rY;rw[xG];rfl
theorem OS (l:List Nat):∀(s) (m),(l.foldl ins s) m=(s m||decide (m∈l)):=by
 induction l with
 | nil=>intro s m;simp
 | cons n l a=>
  intro s m;rw[wl,a];unfold ins;by_cases h:m=n<;>simp[h]
theorem J4 (l) (m):rY l m=decide (m∈l):=by unfold rY;rw[OS];simp[emp]
def qz (P:List Int):List Nat:=(nzF P).map Int.toNat
def pu (nd:Nat->Int) (n:Nat):List Nat:=(List.range n).map fun i=>(nd i).toNat
def sR (L:List Pn):List Nat:=L.flatMap fun x=>qz x.P
structure kL (nd:Nat->Int) (L:List Pn) (hs:Nat->Bool) (k:Nat):Prop where
 nodup:(pu nd 16++sR L).Nodup
 nds:∀i,i<16->37<=nd i/\nd i<(k:Int)
 pts:∀x∈L,∀p∈x.P,p=0\/(37<=p/\p<(k:Int))
 has:∀m,m<256->rY (pu nd 16++sR L) m=hs m
 few:∀x∈L,x.P.length<=8
theorem YW {x:Nat} {R:List Nat} (h:(A++x::R).Nodup):rY A x=false:=by rw[J4,zM];intro a;exact (vf.1 h).2.2 x a x xn rfl
theorem RO (x) (l):nzF (x::l)=if x=0 then nzF l else x::nzF l:=by unfold nzF;rw[vo];by_cases h:x=0<;>simp[h]
theorem RN (l) (x):nzF (l++[x])=if x=0 then nzF l else nzF l++[x]:=by rw[Vl,RO];by_cases h:x=0<;>simp[h,nzF]
theorem setG: prog.eqGuardType prog.depth 102=false:=by kernel_rfl
structure pS (w wr:World) (k:Nat) (A S:Array Value):Prop where
 c4:wr.heap[w.heap.size]?=some (.cells #[k] 3)
 c5:wr.heap[w.heap.size+1]?=some (.cells A 104)
 c9:wr.heap[w.heap.size+1+1+1]?=some (.cells S 102)
 c10:wr.heap[w.heap.size+1+1+1+1]?=some (.cells #[.bool true] 4)
 below:Below w w wr
theorem pS.step {A:Array Value} (h:pS w wr k A S) (a:Below wr wr w2):pS w w2 k A S:=
 ⟨wy a h.c4,wy a h.c5,wy a h.c9,wy a h.c10,zf h.below a⟩
theorem pS.put {A S2:Array Value} (h:pS w wr k A S) (b:yQ (fun i=>i=w.heap.size+1+1+1) wr w2) (c:w2.heap[w.heap.size+1+1+1]?=some (.cells S2 102)):pS w w2 k A S2:=
 ⟨(
  b.block _ (xR h.c4) (by omega)).trans h.c4,(b.block _ (xR h.c5) (by omega)).trans h.c5,c,(b.block _ (xR h.c10) (by omega)).trans h.c10,
  ⟨b.os.trans h.below.os,b.tape.trans h.below.tape,b.output.trans h.below.output,zt h.below.size b.size,fun i a=>(b.block i (zo a h.below.size) (by omega)).trans (h.below.block i a)⟩⟩
theorem NX (nd) (j n) (h:j<=n):(pu nd n).take j=pu nd j:=by unfold pu;rw[<-List.map_take,List.take_range,vW h]
theorem JT (nd) (j):pu nd (j+1)=pu nd j++[(nd j).toNat]:=by unfold pu;rw[vI,yy];rfl
theorem N3 (h:(A++B).Nodup):(A.take j).Nodup:=((vf.1 h).1).sublist (List.take_sublist _ _)
theorem RE {nd:Nat->Int} (h:(pu nd 16++B).Nodup) (b:j<16):rY (pu nd j) (nd j).toNat=false:=by have a:=N3 (j:=j+1) h;rw[NX _ _ _ (by omega),JT]at a;exact YW (R:=[]) a
theorem Iz (P:List Int) (a) (h):qz (P.take (a+1))=qz (P.take a)++(if P[a]=0 then [] else [P[a].toNat]):=by unfold qz;rw[sO,zh h,Option.toList_some,RN];split<;>simp
theorem JU (L:List Pn) (i) (h):sR (L.take (i+1))=sR (L.take i)++qz L[i].P:=by unfold sR;rw[sO,zh h,Option.toList_some,vt];simp
theorem PY {L:List Pn} {i a:Nat} (h:(A++sR L).Nodup) (hi) (d:a<L[i].P.length) (e:L[i].P[a]≠0):rY (A++sR (L.take i)++qz (L[i].P.take a)) L[i].P[a].toNat=false:=by
 have c:qz L[i].P=qz (L[i].P.take (a+1))++qz (L[i].P.drop (a+1)):=by unfold qz;rw[<-yy,<-Vl,xC]
 have b:sR L=sR (L.take (i+1))++sR (L.drop (i+1)):=by unfold sR;rw[<-vt,xC]
 rw[b,JU L i hi,c,Iz _ _ d,zb e]at h;refine YW (R:=qz (L[i].P.drop (a+1))++sR (L.drop (i+1))) ?_;simpa[zP]using h
theorem NY (
 w) (
  nd) (hs) (k bm) (hk:k<=256) (A) (ab:Hid (A.size=48)) (_HA1:Hid (A.all (·.oneCell')=true)) (av:Hid (∀j,j<16->A[j]?=some (.int .i64 (nd j)))) (az:Hid (∀j,j<32->A[16+j]?=(enc hs)[j]?))
 (v) (E) (L) (G) (hv:wh w v 8 E.length (uG E)) (hE:tZ G w E L) (hl:L.length<=1000) (aa:kL nd L hs k):
 Calls prog 152 #[.int .i64 k,.agg A,v,.map (some bm)] w
  (fun e w'=>e=.returned (.bool true)/\Below w w w'):=by
 have l:=za aa;have HE:=za hE;obtain⟨R,H⟩:=zD E.length;obtain⟨p,cp,af,HP⟩:=jT hv;rw[H.o]at af HP;subst af;have bq:R<=1000:=by rw[<-H.o,hE.1];exact hl
 clear aa hE hv hl;obtain⟨Z,aq⟩:∃N:Array Value,Hid (N=(A.toList.take 16).toArray):=⟨_,rfl⟩;have V:Hid (Z.size=16):=by show _=_;rw[aq.o];have:=ab.o;simp;omega
 have aj:Hid (∀j,j<Z.size->A[0+j]?=Z[j]?):=fun j M=>by rw[V.o]at M;rw[aq.o,yO,<-zO,xM,zI,ze M]
 obtain⟨Z0,ax⟩:=zA (enc emp);have HZ:Hid (∀w,(zeroValue 102).run prog w=.ok (.agg Z0) w):=by rw[ax.o];exact setZ
 have a7:Hid (Z0=enc (rY (pu nd 0))):=by show _=_;rw[ax.o];rfl
 have H0:Hid (pS w (((((w.alloc (.cells #[k] 3)).alloc (.cells A 104)).alloc (.cells #[.map (some bm)] 116)).alloc (.cells Z0 102)).alloc (.cells #[.bool true] 4)) k A Z0):=
  ⟨tA (tA (tA (tA (zH) _) _) _) _,tA (tA (tA (jV _ _ _ (by simp)) _) _) _,tA (jV _ _ _ (by simp)) _,jV _ _ _ (by simp),
   ((((zB.alloc zL _).alloc (by simp) _).alloc (by simp;omega) _).alloc (by simp;omega) _).alloc (by simp;omega) _⟩
 go_enter func152,ntmps152
 go_wp2_with (first
  | (refine oC rfl 102 rfl Z0 HZ.o ?_)
  | (refine pZ (by kernel_rfl) 100 (.tmp 19) rfl (w.heap.size+1) 0 rfl 104 A Z (0,0) _ H0.o.c5 aj.o lz rfl (by rw[V.o];exact lj) ?_))
 generalize (((((w.alloc (.cells #[k] 3)).alloc (.cells A 104)).alloc (.cells #[.map (some bm)] 116)).alloc (.cells Z0 102)).alloc (.cells #[.bool true] 4))=w0 at *
 go_loopw [21] (fun i wr=>∃j:Nat,j<=16/\i=.int .i64 j/\Hid (pS w wr k A (enc (rY (pu nd j))))) (fun i _=>16-(intOf i).toNat)
 case atStart=>exact⟨0,by omega,rfl,by rw[<-a7.o];exact H0⟩
 case round=>
  obtain⟨j,M,rfl,c⟩:=hrel;by_cases D:j<16
  .have z:(j:Int)<16:=(by omega);have J:=l.o.nds j D;obtain⟨y,Hy⟩:∃y:Nat,Hid (nd j=(y:Int)):=⟨(nd j).toNat,by show _=_;omega⟩;have au:∀W,(Instr.index 100 (.agg Z) (.int .i64 j)).run prog W=.ok (.int .i64 y) W:=fun W=>
    V0 _ _ 16 .i64 Z .i64 (j:Int) lz intT intS (by omega) (by omega) _ (by have h1:=aj.o j (by rw[V.o];exact D);rw[yz,<-h1,yO,av.o j D,Hy.o]) W
   have b:=RE l.o.nodup D;have h:=za (JT nd j);rw[Hy.o]at b J h;rw[yz]at b h;have S:wr.cell? (w.heap.size,0)=some (.int .i64 k):=zC c.o.c4;have d:=za (YP wr y k (by omega) (by omega) hk w.heap.size (w.heap.size+1+1+1) (w.heap.size+1+1) (w.heap.size+1+1+1+1) _ _ (rY (pu nd j)) rfl rfl b S c.o.c9);clear S b;go_wp2_with fail
   refine d.o.mono ?_;rintro e w3 ⟨rfl,s,t⟩;have f:Hid (pS w w3 k A (enc (rY (pu nd (j+1))))):=(by rw[h.o,IJ];exact c.o.put s t);clear s t d au;go_wp2;go_roundw;case rel=>exact⟨j+1,by omega,by go_num,f⟩
   case measure=>simp[intOf];omega
  .obtain rfl:j=16:=(by omega);have z:¬((16:Nat):Int)<16:=(by omega);obtain⟨T,HT⟩:=zD (pu nd 16);have ad:=za l.o.nodup;rw[HT.o]at c ad;have aw:Hid (pS w wr k A (enc (rY (T++sR (L.take 0))))):=(by show _;rw[show T++sR (L.take 0)=T by simp[sR]];exact c.o);have an:Hid (L.length=R):=(by show _=_;rw[<-H.o];exact HE.o.1.symm);go_wp2;go_loopw [30] (fun i wr=>∃j:Nat,j<=R/\i=.int .i64 j/\Hid (pS w wr k A (enc (rY (T++sR (L.take j)))))) (fun i _=>R-(intOf i).toNat);case atStart=>exact⟨0,by omega,rfl,aw⟩
   case round=>
    clear c aw;obtain⟨i,hi,rfl,c⟩:=hrel;by_cases ah:i<R
    .obtain⟨g,o,rfl,F,hc⟩:=HP.o (by omega);have al:i<E.length:=(by rw[H.o];exact ah);have u:i<L.length:=(by rw[an.o];exact ah);obtain⟨d0,d1,d2,d3,d4,d5,d6,d7⟩:=mN hc i al;have Y:=za ((HE.o.2 i al u));have ac:=za (l.o.few _ (zx u));have ak:=za (l.o.pts _ (zx u));have h:=za (JU L i u);have ae:=za (fun a ha=>PY (a:=a) ad.o u ha);generalize L[i]=X at Y ac ak h ae;generalize E[i]=x at d0 d1 d2 d3 d4 d5 d6 d7 Y;obtain⟨xk,xm,xu,xg,xs,xl,ao,xq,C,xc⟩:=x;have B:=c.o.below;have c0:=(B.cell (p:=⟨g,o+i*8,none⟩) F).trans d0;have c1:=(B.cell (p:=⟨g,o+i*8+1,none⟩) F).trans d1;have c2:=(B.cell (p:=⟨g,o+i*8+2,none⟩) F).trans d2;have c3:=(B.cell (p:=⟨g,o+i*8+3,none⟩) F).trans d3;have S:=(B.cell (p:=⟨g,o+i*8+4,none⟩) F).trans d4;have c5:=(B.cell (p:=⟨g,o+i*8+5,none⟩) F).trans d5;have c6:=(B.cell (p:=⟨g,o+i*8+6,none⟩) F).trans d6;have c7:=(B.cell (p:=⟨g,o+i*8+7,none⟩) F).trans d7;dsimp only at c0 c1 c2 c3 S c5 c6 c7;have z:i<(R:Int):=(by omega);have bd:=zo F B.size;have ba:¬g=wr.heap.size:=(by omega);have aC:Hid (vT w (xq,C,xc) X.P):=Y.o.2.2.2.2.2.2.2.now;obtain⟨n,HN⟩:=zD X.P.length;obtain⟨pp,pc,aH,ar⟩:=Z6 aC.o;injection aH with e1 e2 e3;subst e1 e3;rw[HN.o]at e2 ar;subst e2;have bj:C<=8:=(by rw[<-HN.o];exact ac.o);clear hc d0 d1 d2 d3 d4 d5 d6 d7 B;have am:Hid (pS w (wr.alloc (.cells #[xk,xm,xu,xg,xs,xl,ao,(xq,C,xc)] 123)) k A (enc (rY (T++sR (L.take i)++qz (X.P.take 0))))):=(by show _;rw[show T++sR (L.take i)++qz (X.P.take 0)=T++sR (L.take i) by simp[qz,nzF]];exact c.o.step (zB.alloc zL _));go_wp2;generalize wr.alloc (.cells #[xk,xm,xu,xg,xs,xl,ao,(xq,C,xc)] 123)=wn at *
     go_loopw [37] (fun i0 wr=>∃a:Nat,a<=C/\i0=.int .i64 a/\Hid (pS w wr k A (enc (rY (T++sR (L.take i)++qz (X.P.take a)))))) (fun i0 _=>C-(intOf i0).toNat)
     case atStart=>exact⟨0,by omega,rfl,am⟩
     case round=>
      clear c am;obtain⟨a,ha,rfl,c⟩:=hrel;by_cases aI:a<C
      .have r:a<X.P.length:=(by rw[HN.o];exact aI);obtain⟨gp,op,rfl,a2⟩:=ar.o (by omega);have cj:=a2 a _ (mu X.P a r);have ap:=zG cj;have cj:=(c.o.below.cell (p:=⟨gp,op+a,none⟩) ap).trans cj;have O:=za (Iz X.P a r);have U:=ak.o _ (zx r);have I:=ae.o a r;obtain⟨x,Hx⟩:=zD (X.P[a]' r);rw[Hx.o]at cj O U I;have ag:a<(C:Int):=(by omega);by_cases q:x=0
       .subst q;have f:Hid (pS w wr k A (enc (rY (T++sR (L.take i)++qz (X.P.take (a+1)))))):=(by rw[O.o,ze rfl,yX];exact c.o);clear I U;go_wp2;go_roundw;case rel=>exact⟨a+1,by omega,by go_num,f⟩
        case measure=>simp[intOf];omega
       .have aJ:(x != 0)=true:=(by simpa using q);have b:=I q;obtain⟨y,Hy⟩:∃y:Nat,Hid (x=(y:Int)):=⟨x.toNat,by show _=_;omega⟩;have J:37<=y/\y<k:=(by have:=Hy.o;omega);have ai:Hid (qz (X.P.take (a+1))=qz (X.P.take a)++[y]):=(by show _=_;rw[O.o,zb q,Hy.o];rfl);rw[Hy.o]at b cj aJ;rw[yz]at b;have S:wr.cell? (w.heap.size,0)=some (.int .i64 k):=zC c.o.c4;have d:=za (YP wr y k J.1 J.2 hk w (w.heap.size+1+1+1) (w.heap.size+1+1) (w.heap.size+1+1+1+1) _ _ (rY (T++sR (L.take i)++qz (X.P.take a))) rfl rfl b S c.o.c9);clear I U S b q;go_wp2_with fail
        refine d.o.mono ?_;rintro e w3 ⟨rfl,s,t⟩;have f:Hid (pS w w3 k A (enc (rY (T++sR (L.take i)++qz (X.P.take (a+1)))))):=(by rw[ai.o,<-zP,IJ];exact c.o.put s t);clear s t d;go_wp2;go_roundw;case rel=>exact⟨a+1,by omega,by go_num,f⟩
        case measure=>simp[intOf];omega
      .obtain rfl:a=C:=(by omega);have ag:¬a<(a:Int):=(by omega);have f:Hid (pS w wr k A (enc (rY (T++sR (L.take (i+1)))))):=(by rw[h.o,<-zP];have:=c.o;rw[<-HN.o,xJ]at this;exact this);go_wp2;go_roundw;case rel=>exact⟨i+1,by omega,by go_num,f⟩
       case measure=>simp[intOf];omega
    .obtain rfl:i=R:=(by omega);have z:¬i<(i:Int):=(by omega);obtain⟨Q,HQ⟩:=zA (enc hs);have a3:Hid (∀j,j<Q.size->A[16+j]?=Q[j]?):=fun j M=>(by rw[HQ.o]at M ⊢;rw[tP]at M;exact az.o j M);have ay:Hid (Q.size=32):=(by show _=_;rw[HQ.o];exact tP _);have K:Hid (pS w wr k A Q):=(by have:=c.o;rw[<-an.o,xJ]at this;have e:enc (rY (T++sR L))=Q:=(by rw[HQ.o,<-HT.o];exact KU fun m hm=>l.o.has m hm);rw[e]at this;exact this);have aG:Hid (∀W,(Op.equalIn 10000 102 (.agg Q) (.agg Q)).run prog W=.ok true W):=fun W=>(by rw[HQ.o];exact LQ hs W);have aZ:wr.cell? (w.heap.size+1+1+1+1,0)=some (.bool true):=zC K.o.c10;go_wp2_with (first
      | (refine yS rfl 102 (.tmp 9) rfl (w.heap.size+1+1+1) rfl 102 Q (0,0) _ K.o.c9 setT rfl (by rw[ay.o];exact setI) ?_)
      | (refine pZ (by kernel_rfl) 102 (.tmp 49) rfl (w.heap.size+1) 16 rfl 104 A Q (0,0) _ K.o.c5 a3.o setT rfl (by rw[ay.o];exact setI) ?_)
      | (refine LF (by kernel_rfl) (.bool false) (MX 102 102 (.tmp 48) (.tmp 50) rfl Q Q rfl rfl true aG.o setG) ?_))
     go_ret;exact⟨rfl,K.o.below⟩
theorem QG (f) (k j) (a:j<32):(encT f k)[16+j]?=(enc (f.hs k))[j]? :=by rw[Zj f k (16+j) (by omega),pY _ j a];unfold uU;rw[zb (by omega),show 16+j-16=j by omega]
theorem NZ (w) (f) (t k bm) (c:k<=256) (v) (E) (L) (G) (d:wh w v 8 E.length (uG E)) (g:tZ G w E L) (h:L.length<=1000) (b:kL (f.nd t) L (f.hs t) k):
 Calls prog 152 #[.int .i64 k,.agg (encT f t),v,.map (some bm)] w
  (fun e w'=>e=.returned (.bool true)/\Below w w w'):=
 NY w (f.nd t) (f.hs t) k bm c _ (oY f t) (Uh f t) (fun j a=>X7 f t j a) (fun j a=>QG f t j a) v E L G d g h b
theorem pH: prog.underlying 116=some (.map 3 4):=by kernel_rfl
theorem lk: ∀w,(zeroValue 4).run prog w=.ok (.bool false) w:=(te (P:=prog) (t:=4) (v:=.bool false) (n:=1) (by kernel_rfl)).1
structure Wg (L:List Pn) (X:List En):Prop where
 len:L.length=32
 kd:∀i (h:i<L.length),(L[i].k=2↔i=0)
 ino:∀x∈X,1<x.2/\x.2<=32
 few:X.length<=32
theorem SN (
 w) (v) (E) (L) (G) (hv:wh w v 8 E.length (uG E)) (hE:tZ G w E L) (X) (ad:Wg L X) (ge ce bm) (xv) (an:w.cell? ⟨ge,0,none⟩=some xv) (hX:rM w xv X):
 Calls prog 154 #[v,.slice (some ⟨ge,0,none⟩) 32 ce,.map (some bm)] w
  (fun e w'=>e=.returned (.tuple #[])/\Below w w w'):=by
 have f:=za ad;have HE:=za hE;have U:E.length=32:=by rw[hE.1];exact ad.len
 obtain⟨p,cp,ab,HP⟩:=jT hv;rw[U]at ab HP;subst ab;obtain⟨g,o,rfl,d,hc⟩:=HP.o (by omega);have HC:=za hc;have ag:=za U;clear ad hE hv hc U HP;obtain⟨N,HN⟩:=zA X.length;obtain⟨px,cx,rfl,aj⟩:=Zs hX N HN.o;have av:=za aj;have aM:N<=32:=by rw[HN.o];exact f.o.few
 have ae:=zG an;have a8:=za an;clear aj hX an;have aV:=@run_makeMap prog;obtain⟨Y,aC,aa,ah⟩:=(tH (P:=prog) (K:=3) w).store intT pH (by simp) (k:=1) (by unfold InZ;omega) (.bool true);have ai:=za (xB (zB.alloc zL _) ah.grown (by simp) (fun q hq=>by injection hq with hq;omega));have am:=za aa;clear aa ah;go_enter func154,ntmps154;go_wp2;have af:Hid (Below w w (Y.alloc (.cells #[(1:Int)] 3))):=ai.o.alloc ai.o.size _;have ak:Hid (MapL prog 3 (Y.alloc (.cells #[(1:Int)] 3)) w.heap.size [(1,.bool true)]):=am.o.of_block (wX _ _ _ am.o.lt);have Q:Hid ((Y.alloc (.cells #[(1:Int)] 3)).heap[Y.heap.size]?=some (.cells #[(1:Int)] 3)):=zH;obtain⟨gt,a7⟩:=zD Y.heap.size;rw[a7.o]at Q ⊢;generalize Y.alloc (.cells #[(1:Int)] 3)=w2 at *
 go_loopw [7] (fun t wr=>((t=.slice (some ⟨gt,0,none⟩) 1 1)\/(∃a c,t=.slice a 0 c))/\Hid (Below w w wr)/\Hid (MapL prog 3 wr w.heap.size [(1,.bool true)])/\Hid (wr.heap[gt]?=some (.cells #[(1:Int)] 3))) (fun t _=>lenV t)
 case atStart=>exact⟨zr rfl,af,ak,Q⟩
 case round=>
  clear af ak Q aC;obtain⟨a9,b,l,T⟩:=hrel;rcases a9 with rfl|⟨a0,c0,rfl⟩
  .have t0:wr.cell? (gt,0)=some (.int .i64 1):=zC T.o;have x0:=(b.o.cell (p:=⟨ge,0,none⟩) ae).trans a8.o;go_wp2;go_loopw [7,31] (fun t i wr=>(∃a c,t=.slice a 0 c)/\∃j:Nat,j<=N/\i=.int .i64 j/\Hid (Below w w wr)/\Hid (MapL prog 3 wr w.heap.size [(1,.bool true)])/\Hid (wr.heap[gt]?=some (.cells #[(1:Int)] 3))) (fun _ i _=>N-(intOf i).toNat);case atStart=>exact⟨⟨_,_,rfl⟩,0,by omega,rfl,b,l,T⟩
   case round=>
    clear b l T t0 x0;obtain⟨⟨a1,c1,rfl⟩,j,hj,rfl,b,l,T⟩:=hrel;by_cases ac:j<N
    .have al:j<X.length:=(by rw[<-HN.o];exact ac);obtain⟨gx,ox,rfl,O,Z⟩:=av.o (by omega);obtain⟨d0,d1⟩:=Z j al;have d0:=(b.o.cell (p:=⟨gx,ox+j*2,none⟩) O).trans d0;have d1:=(b.o.cell (p:=⟨gx,ox+(j*2+1),none⟩) O).trans d1;have R:=f.o.ino _ (zx al);generalize X[j]=x at d0 d1 R;obtain⟨xs,xi⟩:=x;dsimp only at d0 d1 R;obtain⟨n,Hn⟩:∃n:Nat,Hid (xi=(n:Int)+1):=⟨(xi-1).toNat,by show _=_;omega⟩;have aH:1<=n/\n<32:=(by have:=Hn.o;omega);rw[Hn.o]at d1;have i1:IntKind.i64.wrap (n+1-1)=n:=(by rw[zQ _ (by omega)];omega);have r:n<E.length:=(by rw[ag.o];omega);have s:n<L.length:=(by rw[f.o.len];omega);obtain⟨z,A,F,I,H,D,C,B⟩:=mN HC.o n r;have M:E[n].k≠2:=(by rw[(HE.o.2 n r s).1];intro hc;have:=(f.o.kd n s).1 hc;omega);generalize E[n]=y at z A F I H D C B M;obtain⟨W,ym,yu,yg,ys,yl,S,yq,yn,yc⟩:=y;have z:=(b.o.cell (p:=⟨g,o+n*8,none⟩) d).trans z;have A:=(b.o.cell (p:=⟨g,o+n*8+1,none⟩) d).trans A;have F:=(b.o.cell (p:=⟨g,o+n*8+2,none⟩) d).trans F;have I:=(b.o.cell (p:=⟨g,o+n*8+3,none⟩) d).trans I;have H:=(b.o.cell (p:=⟨g,o+n*8+4,none⟩) d).trans H;have D:=(b.o.cell (p:=⟨g,o+n*8+5,none⟩) d).trans D;have C:=(b.o.cell (p:=⟨g,o+n*8+6,none⟩) d).trans C;have B:=(b.o.cell (p:=⟨g,o+n*8+7,none⟩) d).trans B;dsimp only at z A F I H D C B M;have b2:(W != 2)=true:=(by simpa using M);have u:j<(N:Int):=(by omega);have a3:=zo d b.o.size;have ax:¬g=wr.heap.size:=(by omega);have aO:¬g=wr.heap.size+1:=(by omega);have aL:=zo O b.o.size;have aG:¬gx=wr.heap.size:=(by omega);have aT:ox+j*2+1=ox+(j*2+1):=(by omega);have h:Hid (Below wr wr ((wr.alloc (.cells #[.string xs,.int .i64 (n+1)] 46)).alloc (.cells #[W,ym,yu,yg,ys,yl,S,(yq,yn,yc)] 123))):=(zB.alloc zL _).alloc (by simp) _;clear Z R M;go_wp2;go_roundw;case rel=>exact⟨⟨_,_,rfl⟩,j+1,by omega,by go_num,zf b.o h.o,l.o.of_block (h.o.block _ l.o.lt),wy h.o T.o⟩
     case measure=>simp[intOf];omega
    .obtain rfl:j=N:=(by omega);have u:¬j<(j:Int):=(by omega);go_wp2;go_roundw;case rel=>exact⟨zu ⟨_,_,rfl⟩,b,l,T⟩
     case measure=>simp[lenV]
  .go_wp2;go_loopw [66] (fun i wr=>∃j:Nat,j<=32/\i=.int .i64 j/\Hid (Below w w wr)/\Hid (MapL prog 3 wr w.heap.size [(1,.bool true)])) (fun i _=>32-(intOf i).toNat);case atStart=>exact⟨0,by omega,rfl,b,l⟩
   case round=>
    clear b l T;obtain⟨n,hn,rfl,b,l⟩:=hrel;by_cases ac:n<32
    .have r:n<E.length:=(by rw[ag.o];omega);have s:n<L.length:=(by rw[f.o.len];omega);obtain⟨z,A,F,I,H,D,C,B⟩:=mN HC.o n r;have m:E[n].k=2↔n=0:=(by rw[(HE.o.2 n r s).1];exact f.o.kd n s);generalize E[n]=y at z A F I H D C B m;obtain⟨W,ym,yu,yg,ys,yl,S,yq,yn,yc⟩:=y;have z:=(b.o.cell (p:=⟨g,o+n*8,none⟩) d).trans z;have A:=(b.o.cell (p:=⟨g,o+n*8+1,none⟩) d).trans A;have F:=(b.o.cell (p:=⟨g,o+n*8+2,none⟩) d).trans F;have I:=(b.o.cell (p:=⟨g,o+n*8+3,none⟩) d).trans I;have H:=(b.o.cell (p:=⟨g,o+n*8+4,none⟩) d).trans H;have D:=(b.o.cell (p:=⟨g,o+n*8+5,none⟩) d).trans D;have C:=(b.o.cell (p:=⟨g,o+n*8+6,none⟩) d).trans C;have B:=(b.o.cell (p:=⟨g,o+n*8+7,none⟩) d).trans B;dsimp only at z A F I H D C B m;have u:(n:Int)<32:=(by omega);have a3:=zo d b.o.size;have ax:¬g=wr.heap.size:=(by omega);have h:Hid (Below wr wr (wr.alloc (.cells #[W,ym,yu,yg,ys,yl,S,(yq,yn,yc)] 123))):=zB.alloc zL _;have J:=za (l.o.of_block (h.o.block _ l.o.lt));have V:=za (zf b.o h.o);by_cases h2:W=2
     .have a6:=m.1 h2;subst a6 h2;clear m;simp only[uL,vC]at z A F I H D C B;have az:=J.o.look (k:=1) intT pH (lk _) (by unfold InZ;omega);rw[show ((getZ [((1:Int),Value.bool true)] 1).getD (.bool false))=.bool true from rfl]at az;by_cases aU:0<yl
      .go_wp2;go_roundw;case rel=>exact⟨1,by omega,by go_num,V,J⟩
       case measure=>simp[intOf]
      .go_wp2;go_roundw;case rel=>exact⟨1,by omega,by go_num,V,J⟩
       case measure=>simp[intOf]
     .have b2:(W==2)=false:=(by simpa using h2);clear m h2;go_wp2;go_roundw;case rel=>exact⟨n+1,by omega,by go_num,V,J⟩
      case measure=>simp[intOf];omega
    .obtain rfl:n=32:=(by omega);have u:¬((32:Nat):Int)<32:=(by omega);go_wp2
     go_end0
     exact⟨rfl,b.o⟩
