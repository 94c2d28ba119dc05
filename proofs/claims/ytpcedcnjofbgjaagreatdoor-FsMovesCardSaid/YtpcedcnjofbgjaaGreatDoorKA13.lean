import Derived.Test.YtpcedcnjofbgjaaGreatDoorKA8
import Derived.Test.YtpcedcnjofbgjaaGreatDoorKA11
set_option maxHeartbeats 0
set_option linter.all false
set_option maxRecDepth 100000
namespace Go.Proofs.YtpcedcnjofbgjaaGreatDoor
open Go.Proofs.Tryz Go.RowKit
variable {A:List Nat} {B c g j k n o:Nat} {E:List Nd} {G G':Nat->Prop} {N:Nat->List Int} {S:Array Value} {e:Nd} {l:List Int} {r:Rdr} {t v:Value} {w w' w1 w2 wr:World} {x z:Int} {xs:List Value}
def Out (G:Nat->Prop) (w:World) (φ:World->Prop):Prop:=∀w',yK G w w'->φ w'
section
variable {G G' : Nat->Prop} {w w1 : World} {φ ψ : World->Prop}
theorem Out.now (h:Out G w φ):φ w:=h w (yK.refl _ _)
theorem Out.keep (h:Out G w φ) (k:yK G w w1):Out G w1 φ:=λa b=>h a (k.step b)
theorem Out.below (h:Out G w φ) (k:Below w w w1):Out G w1 φ:=h.keep (yK.of_below k)
theorem Out.grow (h:Out G w φ) (c:∀i,i<w.heap.size->G' i->G i):Out G' w φ:=λa b=>h a (b.mono c)
theorem Out.mono (h:Out G w φ) (f:∀w',φ w'->ψ w'):Out G w ψ:=λw' a=>f w' (h w' a)
end
theorem Pd (h:uq w v k n xs) (m:∀b,v.ownBlock=some b->b<w.heap.size->w'.heap[b]?=w.heap[b]?):uq w' v k n xs:=by obtain⟨f,e⟩:=h;refine⟨f,e.imp id ?_⟩;rintro ⟨g,a,c,rfl,i⟩;refine⟨g,a,c,rfl,λj x l=>?_⟩;have d:=i j x l;exact (vM (m g rfl (zy d))).trans d
theorem Q3 (h:uq w v k n xs) (e:∀b,v.ownBlock=some b->b<w.heap.size->¬G b):Out G w (λw'=>uq w' v k n xs):=
 λ_ c=>Pd h λb d a=>c.block b a (e b d a)
theorem iS {base:Nat} {e:TypeId} {size:Nat} (h:w.ownsRow base e size v n xs) (d:∀b,v.ownBlock=some b->¬G b):Out G w (λw'=>w'.ownsRow base e size v n xs):=
 λ_ c=>vE h λq a=>c.block q (h.lt q a).2 (d q a)
structure Pn where
 k:Int
 m:Int
 u:Int
 g:Int
 s:Int
 l:Int
 up:Int
 P:List Int
def zN : Pn:=⟨0,0,0,0,0,0,0,[]⟩
def NdIs (G:Nat->Prop) (w:World) (e:Nd) (x:Pn):Prop:=
 e.k=x.k/\e.m=x.m/\e.u=x.u/\e.g=x.g/\e.s=x.s/\e.l=x.l/\e.up=x.up/\Out G w (λw'=>tP w' (e.q,e.n,e.c) x.P)
theorem NdIs.keep {x:Pn} (h:NdIs G w e x) (k:yK G w w1):NdIs G w1 e x:=by obtain⟨f,c,j,d,i,a,g,b⟩:=h;exact⟨f,c,j,d,i,a,g,b.keep k⟩
theorem NdIs.grow {x:Pn} (h:NdIs G w e x) (l:∀i,i<w.heap.size->G' i->G i):NdIs G' w e x:=by obtain⟨f,c,k,d,j,a,g,b⟩:=h;exact⟨f,c,k,d,j,a,g,b.grow l⟩
def Ns (G:Nat->Prop) (w:World) (E:List Nd) (L:List Pn):Prop:=E.length=L.length/\∀i (h) (h':i<L.length),NdIs G w E[i] L[i]
theorem Ns.keep {L:List Pn} (h:Ns G w E L) (k:yK G w w1):Ns G w1 E L:=⟨h.1,λi a b=>(h.2 i a b).keep k⟩
theorem Ns.grow {L:List Pn} (h:Ns G w E L) (c:∀i,i<w.heap.size->G' i->G i):Ns G' w E L:=⟨h.1,λi a b=>(h.2 i a b).grow c⟩
theorem Ns.snoc {L:List Pn} {x:Pn} (h:Ns G w E L) (f:NdIs G w e x):Ns G w (E++[e]) (L++[x]):=by
 refine⟨by simp[h.1],λi c d=>?_⟩;by_cases a:i<E.length
 .rw[List.getElem_append_left a,List.getElem_append_left (by rw[<-h.1];exact a)];exact h.2 i a (by rw[<-h.1];exact a)
 .have b:i=E.length:=by simp at c;omega
  subst b;rw[kX zL,kX (by rw[h.1];exact zL)];simpa using f
theorem Ns.set {L:List Pn} {x:Pn} (h:Ns G w E L) (d:NdIs G w e x) (j):Ns G w (E.set j e) (L.set j x):=by
 refine⟨by simp[h.1],λi b c=>?_⟩;rw[List.getElem_set,List.getElem_set];by_cases a:j=i
 .rw[ze a,ze a];exact d
 .rw[zb a,zb a];exact h.2 i (by simpa using b) (by simpa using c)
theorem Ns.nil (G) (w):Ns G w [] []:=⟨rfl,λi h=>by simp at h⟩
theorem JF {P:List Int} (h:Cl B w v P) (e:∀i,i<w.heap.size->G i->i<B):Out G w (λw'=>tP w' v P):=
 Q3 h.1 λb d c a=>by have:=h.2 b d;have:=e b c a;omega
def pnOf (bs:List Int):Pn:=⟨bs.getD 0 0,bs.getD 1 0+bs.getD 2 0*256,bs.getD 3 0,bs.getD 4 0,bs.getD 5 0+bs.getD 6 0*256,bs.getD 7 0,bs.getD 8 0,ptsN bs⟩
def half (D:List Int) (i:Nat):List Int:=(D.drop (32*i)).take 32
def mL (N:Nat->List Int) (nd:Nat->Int) (j:Nat):List Int:=half (N (nd (j / 2)).toNat) (j%2)
def RJ (N:Nat->List Int) (nd:Nat->Int) (n:Nat):List Pn:=(List.range n).map λj=>pnOf (mL N nd j)
theorem YL (N) (nd) (n):RJ N nd (n+1)=RJ N nd n++[pnOf (mL N nd n)]:=by unfold RJ;rw[vG,yo];rfl
theorem qF (N) (nd) (n):(RJ N nd n).length=n:=by simp[RJ]
theorem LG: (prog.info? 102).map (λi=>(i.zero,i.size,i.bytes))=some (some (.agg #[(),(),(),(),(),(),(),.slice none 0 0]),8,80):=by kernel_rfl
theorem ndsT: prog.underlying 88=some (.slice 102):=by kernel_rfl
theorem jY (E) (e):ue (E++[e])=ue E++nd8 e:=by unfold ue;rw[vW];simp
def Zl (N:Nat->List Int) (nd:Nat->Int) (k:Nat):Prop:=(∀j,j<16->0<=nd j/\nd j<k)/\∀j,j<32->NA (mL N nd j)
def Q9 (w:World) (o:Value):Nat->Prop:=λi=>i<w.heap.size\/o.ownBlock=some i
def Tf (w:World) (v:Value) (L:List Pn) (w':World):Prop:=∃E,w'.ownsRow (w.heap.size+1) 102 8 v L.length (ue E)/\Ns (Q9 w v) w' E L/\Below w w w'
theorem Xk {cap:Nat} {cur:Array Value} {D:List Int} (h:D.length=64) (d:w.heap[g]?=some (.cells cur 5)) (f:cur.toList.take 64=u8s D) (i) (k:i<2):
 uM w (.slice (some ⟨g,32*i,none⟩) 32 cap) (half D i):=by
 have b:(half D i).length=32:=by unfold half;rw[Ni,Nk];omega
 refine⟨by rw[wd,vB],zw ⟨g,32*i,cap,by rw[b],λj x c=>?_⟩⟩;have a:=(zG.1 c).1;rw[wd,b]at a;rw[zC d,<-zK];have e:cur.toList[32*i+j]?=(u8s D)[32*i+j]? :=by rw[<-f,zI,ze (by omega)]
 rw[e,<-c];unfold half;rw[ZP,no,zI,ze a,yy]
theorem Kk (h:RdAt w r N k) (nd) (A) (af:Hid (A.size=48)) (_HA1:Hid (A.all (·.oneCell')=true)) (ag:Hid (∀j,j<16->A[j]?=some (.int .i64 (nd j)))) (ae:Zl N nd k):
 Calls prog 48 #[.iface r.T r.u,.agg A] w
  (λe w'=>∃v,e=.returned (.tuple #[v,()])/\Tf w v (RJ N nd 32) w'):=by
 have q1:=h.n1;have q2:=h.m1;have q3:=h.c1;have HR:=za h;have V:=za ae;clear h ae;obtain⟨i0,av,ak,az,ap⟩:=yX LG;have bb:=za av;have aG:=za ak;have aB:=za az;have aJ:=za ap;clear av ak az ap;obtain⟨NN,au⟩:∃N:Array Value,Hid (N=(A.toList.take 16).toArray):=⟨_,rfl⟩;have ab:Hid (NN.size=16):=by show _=_;rw[au.o];have:=af.o;simp;omega
 have an:Hid (∀j,j<NN.size->A[0+j]?=NN[j]?):=λj hj=>by rw[ab.o]at hj;rw[au.o,yF,<-zK,xw,zI,ze hj]
 go_enter func48,ntmps48
 go_wp2_with (refine uU (by kernel_rfl) 79 (.tmp 14) rfl w 0 rfl 83 A NN (0,0) _ (zH) an.o pL rfl (by rw[ab.o];exact Uv) ?_)
 have U:Hid (Below w w (w.alloc (.cells A 83))):=zB.alloc zL _;have ai:Hid ((w.alloc (.cells A 83)).heap.size=w.heap.size+1):=by show _=_;simp
 generalize w.alloc (.cells A 83)=w1 at *
 go_loopw [6,16] (λo i wr=>∃(j:Nat) (E:List Nd),j<=16/\i=.int .i64 j/\Hid (wr.ownsRow (w.heap.size+1) 102 8 o (2*j) (ue E))/\Hid (Ns (Q9 w o) wr E (RJ N nd (2*j)))/\Hid (Below w1 w1 wr)) (λ_ i _=>16-(intOf i).toNat)
 .exact⟨0,[],yh _,rfl,yL _ _ _ _,Ns.nil _ _,zB⟩
 .obtain⟨j,E,hj,rfl,Q,HE,HB⟩:=hrel;by_cases I:j<16
  .have a1:(j:Int)<16:=(by omega);obtain⟨y,Hy⟩:∃y:Nat,Hid (nd j=(y:Int)):=⟨(nd j).toNat,by show _=_;have:=V.o.1 j I;omega⟩;have ac:y<k:=(by have:=V.o.1 j I;have:=Hy.o;omega);have aw:∀W,(Instr.index 79 (.agg NN) (.int .i64 j)).run prog W=.ok (.int .i64 y) W:=λW=>
    jr _ _ 16 .i64 NN .i64 (j:Int) pL intT intS (by omega) (by omega) _ (by have L:=an.o j (by rw[ab.o];exact I);rw[yQ,<-L,yF,ag.o j I,Hy.o]) W
   have am:=za (HR.o.read wr (zi U.o HB.o) y ac);have X:=za (HR.o.len y ac);have aP:=za (HR.o.byte y ac);go_wp2_with fail
   refine am.o.mono ?_;rintro e w3 ⟨v3,rfl,aL⟩;obtain⟨g3,bh,R,rfl,B,ax,aa,C⟩:=aL;rw[X.o]at B aa |-;have aH:=za ax;have bd:=za aa;have bv:=za C;have ao:=za (zi HB.o C);have aX:=za (tt Q.o C);have aK:=za (HE.o.keep (yK.of_below C));have bo:=B.2;clear ax aa C Q HE am aw;go_wp2;go_loopw [6,27] (λo i wq=>∃(a:Nat) (E:List Nd),a<=2/\i=.int .i64 a/\Hid (wq.ownsRow (w.heap.size+1) 102 8 o (2*j+a) (ue E))/\Hid (Ns (Q9 w o) wq E (RJ N nd (2*j+a)))/\Hid (Below w1 w1 wq)/\Hid (wq.heap[g3]?=some (.cells R 5))) (λ_ i _=>2-(intOf i).toNat)
   .exact⟨0,E,yh _,rfl,aX.o,aK.o,ao.o,aH.o⟩
   .obtain⟨a,E2,ha,rfl,Q,HE,D,ar⟩:=hrel;by_cases aS:a<2
    .have al:(a:Int)<2:=(by omega);have aj:Hid (mL N nd (2*j+a)=half (N y) a):=(by show _=_;unfold mL;rw[show (2*j+a) / 2=j by omega,show (2*j+a)%2=a by omega,Hy.o];rfl);have Y:Hid ((half (N y) a).length=32):=(by show _=_;unfold half;rw[Ni,Nk,X.o];omega);have HG:Hid (NA (half (N y) a)):=(by show _;rw[<-aj.o];exact V.o.2 (2*j+a) (by omega));have ba:Hid (∀x∈half (N y) a,0<=x/\x<=255):=λx hx=>aP.o x (vN (xI hx));have aT:=za (YL N nd (2*j+a));have i1:=zW (32*a) (by omega);have i2:=zW (a+1) (by omega);have i3:=zW (32*(a+1)) (by omega);have a9:=za (λc=>Xk (cap:=c) X.o ar.o bd.o a aS);go_wp2_with fail
     rw[show 32*(a+1)-32*a=32 by omega];refine (W6 _ (half (N y) a) wr (a9.o _) (by rw[Y.o];omega) ba.o ⟨_,_,by rw[Y.o],by rw[Y.o];omega⟩).mono ?_;rintro e H (⟨_,v5,rfl,hI,M⟩|⟨a7,_⟩);case inr=>exact yi HG.o a7
     obtain⟨G,F,ad⟩:=Xc hI.1 _ rfl;obtain⟨g,s,f,p,l,m,z,P,HX⟩:∃g s f p l m z P,Hid (pnOf (half (N y) a)=⟨g,s,f,p,l,m,z,P⟩):=⟨_,_,_,_,_,_,_,_,rfl⟩;have ay:=HX.o;unfold pnOf at ay;injection ay with e0 e1 e2 e3 e4 e5 e6 e7;rw[e0,e1,e2,e3,e4,e5,e6];rw[e7]at hI ad;obtain⟨n,HN⟩:=zD P.length;rw[HN.o]at ad;subst ad;have HI:=za hI;have K:=za M;have aE:=za (tt Q.o M);have aq:=za (HE.o.keep (yK.of_below M));have aC:Hid (NdIs (Q9 w u6) H ⟨g,s,f,p,l,m,z,G,n,F⟩ (pnOf (half (N y) a))):=by
      rw[HX.o];exact⟨rfl,rfl,rfl,rfl,rfl,rfl,rfl,JF hI λi _ Z=>by
       rcases Z with Z|Z
       .have L:=U.o.size;have h3:=D.o.size;omega
       .exact (Q.o.lt i Z).2⟩
     clear hI M e0 e1 e2 e3 e4 e5 e6 e7;obtain⟨nE,bc⟩:=zD E2.length;have aW:nE=2*j+a:=(by rw[<-bc.o,aq.o.1,qF]);subst aW;have aA:=za (zv (wZ ai.o.symm) (zv D.o.size K.o.size));have J:Hid (Below H H ((H.alloc (.cells #[g,s,f,p,l,m,z,(G,n,F)] 102)).alloc (.cells #[g,s,f,p,l,m,z,(G,n,F)] 102))):=(zB.alloc zL _).alloc (by simp) _;have a2:=za (tt aE.o J.o);have a8:Hid (((H.alloc (.cells #[g,s,f,p,l,m,z,(G,n,F)] 102)).alloc (.cells #[g,s,f,p,l,m,z,(G,n,F)] 102)).heap[H.heap.size+1]?=some (.cells #[g,s,f,p,l,m,z,(G,n,F)] 102)):=uD _ _ _ (by simp);go_wp2_with (at_builtin;refine wpList_append_own_at _ rfl _ _ 88 rfl (w.heap.size+1) 102 i0 (.agg #[(),(),(),(),(),(),(),.slice none 0 0]) 8 80 ndsT bb.o aG.o aB.o aJ.o rfl (by decide) _ _ _ rfl a2.o ⟨H.heap.size+1,0,none⟩ 1 1 [.int .i64 g,.int .i64 s,.int .i64 f,.int .i64 p,.int .i64 l,.int .i64 m,.int .i64 z,.slice G n F] rfl rfl (xF (cs:=#[.int .i64 g,.int .i64 s,.int .i64 f,.int .i64 p,.int .i64 l,.int .i64 m,.int .i64 z,.slice G n F]) (t:=102) (fr:=(0,0)) a8.o) (by simp[Value.oneCell']) (by unfold maxLen;omega) (by omega) (by have:=aA.o;simp;omega) ?_;intro v6 w6 S b _ O)
     have a6:Hid (∀i,i<H.heap.size->Q9 w v6 i->Q9 w u6 i):=λi Z d=>by
      rcases d with d|d
      .exact zu d
      .rcases O with hl|hl
       .exact zw (hl▸d)
       .rw[hl]at d;injection d with d;have:H.heap.size<=i:=(by rw[<-d];simp;omega);omega
     have aR:Hid (yK (λi=>Q9 w u6 i\/Q9 w v6 i) H w6):=((yK.of_below J.o).step (yK.grown b (λq hq=>zu (zw hq))));have aN:Hid (Ns (Q9 w v6) w6 (E2++[⟨g,s,f,p,l,m,z,G,n,F⟩]) (RJ N nd (2*j+(a+1)))):=(by have L:=(aq.o.snoc aC.o).grow (G':=λi=>Q9 w u6 i\/Q9 w v6 i) (λi Z d=>d.elim id (a6.o i Z));have h2:=(L.keep aR.o).grow (G':=Q9 w v6) (λi _ d=>zw d);show Ns _ _ _ (RJ N nd (2*j+a+1));rw[aT.o,aj.o];exact h2);have aM:Hid (w6.ownsRow (w.heap.size+1) 102 8 v6 (2*j+(a+1)) (ue (E2++[⟨g,s,f,p,l,m,z,G,n,F⟩]))):=(by rw[jY];exact S);have aF:=za (Cd (zi (zi D.o K.o) J.o) b (by have L:=D.o.size;have h2:=K.o.size;simp;omega) (λq hq=>by rw[ai.o];exact (Q.o.lt q hq).1));have aQ:Hid (w6.heap[g3]?=some (.cells R 5)):=(by have L:=xV J.o (xV K.o ar.o);exact (b.block g3 (xB L) (λhc=>rC a2.o L (by decide) hc.symm)).trans L);clear S b O;go_roundw
     .exact⟨a+1,_,by omega,by go_num,aM,aN,aF,aQ⟩
     .simp[intOf];omega
    .obtain rfl:a=2:=(by omega);have aI:Hid (wr.ownsRow (w.heap.size+1) 102 8 u6 (2*(j+1)) (ue E2)):=Q.o;have aZ:Hid (Ns (Q9 w u6) wr E2 (RJ N nd (2*(j+1)))):=HE.o;have al:¬((2:Nat):Int)<2:=(by omega);go_wp2;go_roundw
     .exact⟨j+1,E2,by omega,by go_num,aI,aZ,D⟩
     .simp[intOf];omega
  .obtain rfl:j=16:=(by omega);have a1:¬((16:Nat):Int)<16:=(by omega);go_wp2;go_ret2;exact⟨_,rfl,E,by rw[qF];exact Q.o,HE.o,zi U.o HB.o⟩
theorem jQ (f) (k j) (a:j<16):(encT f k)[j]?=some (.int .i64 (f.nd k j)):=by rw[mu f k j (by omega)];unfold nu;rw[ze a]
theorem iB (h:RdAt w r N k) (f) (t) (b:Zl N (f.nd t) k):
 Calls prog 48 #[.iface r.T r.u,.agg (encT f t)] w
  (λe w'=>∃v,e=.returned (.tuple #[v,()])/\Tf w v (RJ N (f.nd t) 32) w'):=
 Kk h (f.nd t) _ (sf f t) (fV f t) (λj a=>jQ f t j a) b
def ZL (N:Nat->List Int):List Int:=N 1++(N 2++N 3)
def forN (N:Nat->List Int) (n:Nat):List Int:=((List.range n).map λi=>N (1+i)).flatten
theorem DS (N) (n):forN N (n+1)=forN N n++N (1+n):=by unfold forN;rw[vG,yo,List.flatten_append];simp
theorem jO (N):forN N 3=ZL N:=by unfold forN ZL;simp[vG]
structure S8 (N:Nat->List Int) (f:Fo) (k:Nat):Prop where
 eq:encF (foB (ZL N))=encF f
 right:fD (foB (ZL N))=0
 root:uB f 0=true
 nds:∀t i,t<4->i<16->uB f t=true->37<=f.nd t i/\f.nd t i<(k:Int)
theorem Gy (h:RdAt w r N k) (hk:16<=k) (f) (al:S8 N f k) (A) (HA:Hid (A=encF f)):
 Calls prog 81 #[.iface r.T r.u] w (κ w (.tuple #[.agg A,()])):=by
 have q1:=h.n1;have q2:=h.m1;have q3:=h.c1;have q4:=h.n2;have q5:=h.m2;have q6:=h.c2;have P:=za h;have L:=za al;clear h al;have s:Hid (A.size=192):=by rw[HA.o];exact vX f
 have ao:Hid (A.all (·.oneCell')=true):=by rw[HA.o];exact pS f
 have aB:Hid (∀(t:Nat) (W),t<4->Calls prog 47 #[.agg A,t] W (κ W (.bool (uB f t)))):=λt W ht=>by rw[HA.o];exact RG f t W ht
 obtain⟨z,aC⟩:=zA (encF mR);have HZ:Hid (∀w,(zeroValue 85).run prog w=.ok (.agg z) w):=by rw[aC.o];exact forZ
 have a9:Hid (z.size=192):=by rw[aC.o];exact vX _
 have aK:Hid (∀(v) (W),uM W v (ZL N)->LF v (ZL N).length->Calls prog 123 #[v] W (κ W (.tuple #[.agg A,()]))):=λv W hb aM=>by
  have hl:(ZL N).length=192:=by unfold ZL;rw[zl,zl,P.o.len 1 (by omega),P.o.len 2 (by omega),P.o.len 3 (by omega)]
  have hu:U8s (ZL N):=λx J=>by
   unfold ZL at J;rcases yN.1 J with J|J
   .exact P.o.byte 1 (by omega) x J
   .rcases yN.1 J with J|J
    .exact P.o.byte 2 (by omega) x J
    .exact P.o.byte 3 (by omega) x J
  have hU:unpF (ZL N)=(foB (ZL N),0):=by unfold unpF;rw[ze ⟨hl,L.o.right⟩]
  have:=L8 v (ZL N) W hb hu aM (by omega);rw[hU]at this;rw[HA.o,<-L.o.eq];exact this
 obtain⟨i0,a5,au,a8,a2⟩:=yX R5;have ba:=za a5;have aN:=za au;have aI:=za a8;have aR:=za a2;clear a5 au a8 a2;go_enter func81,ntmps81;go_wp2_with (refine uo rfl 85 rfl z HZ.o ?_)
 have ae:Hid (Below w w (w.alloc (.cells z 85))):=zB.alloc zL _;have aq:Hid ((w.alloc (.cells z 85)).heap.size=w.heap.size+1):=by show _=_;simp
 have aP:Hid ((w.alloc (.cells z 85)).heap[w.heap.size]?=some (.cells z 85)):=zH;generalize w.alloc (.cells z 85)=V at *
 go_loopw [4,13] (λo i wr=>∃(j:Nat),j<=3/\i=.int .i64 j/\Hid (wr.ownsRow (w.heap.size+1) 5 1 o (64*j) (u8s (forN N j)))/\Hid (Below V V wr)) (λ_ i _=>3-(intOf i).toNat)
 .exact⟨0,yh _,rfl,yL _ _ _ _,zB⟩
 .obtain⟨j,hj,rfl,HO,HB⟩:=hrel;by_cases bk:j<3
  .have aD:(j:Int)<3:=(by omega);have i1:=zW (1+j) (by omega);have K:=za (P.o.read wr (zi ae.o HB.o) (1+j) (by omega));have M:=za (P.o.len (1+j) (by omega));have aw:=za (DS N j);rw[show ((1+j:Nat):Int)=1+(j:Int) by omega]at K;obtain⟨D,HD⟩:=zD (N (1+j));rw[HD.o]at K M aw;go_wp2_with fail
   refine K.o.mono ?_;rintro e w3 ⟨v3,rfl,aT⟩;obtain⟨g3,U,bf,rfl,E,a6,ag,ad⟩:=aT;rw[M.o]at E ag |-;have aO:=za (js.cell (_B:=w.heap.size+1) (_cap:=U) M.o a6 ag);have af:=za (zi HB.o ad);have aA:=za (tt HO.o ad);have aS:Hid ((u8s D).length=64):=(by show _=_;rw[wd,M.o]);have aJ:=za (gZ D);have aG:=za (zv (wZ aq.o.symm) af.o.size);clear a6 ag ad HO K E;go_wp2_with (at_builtin;refine yw _ rfl _ _ 38 rfl (w.heap.size+1) 5 i0 (.int .u8 0) 1 1 u8sT ba.o aN.o aI.o aR.o rfl (by decide) _ _ _ rfl aA.o ⟨g3,0,none⟩ 64 U (u8s D) rfl (by rw[aS.o]) aO.o aJ.o (by unfold maxLen;omega) (by omega) aG.o ?_;intro v5 w5 X H ap)
   have aL:Hid (w5.ownsRow (w.heap.size+1) 5 1 v5 (64*(j+1)) (u8s (forN N (j+1)))):=(by show _;rw[aw.o,pX,show 64*(j+1)=64*j+64 by omega];exact X);have aj:=za (Cd af.o H af.o.size (λq hq=>by rw[aq.o];exact (aA.o.lt q hq).1));clear X H ap;go_wp2;go_roundw
   .exact⟨j+1,by omega,by go_num,aL,aj⟩
   .simp[intOf];omega
  .obtain rfl:j=3:=(by omega);have aD:¬((3:Nat):Int)<3:=(by omega);have ay:(ZL N).length=192:=(by have:=HO.o.1;rw[wd,jO]at this;exact this);have aF:Hid (uM wr u4 (ZL N)):=(by have:=uq.of_owns HO.o;rw[jO,show 64*3=(ZL N).length from ay.symm]at this;exact this);have aH:Hid (LF u4 (ZL N).length):=λp l c hu=>by
    rcases HO.o.2 with⟨_,h0⟩|⟨g,bt,bj,hv,_,_,hc,_⟩
    .omega
    .rw[hv]at hu;injection hu with _ _ h3;omega
   clear ay;go_wp2_with fail
   refine (aK.o u4 wr aF.o aH.o).mono ?_;rintro e C ⟨rfl,az⟩;have ac:=za (zi HB.o az);have a7:=za (xV ac.o aP.o);clear az;have a4:=L.o.root;have F:=za (aB.o 0);rw[a4]at F;have an:w.heap.size≠C.heap.size:=(by have:=xB a7.o;omega);have ak:Hid (((C.alloc (.cells z 85)).setRow C A).heap[C.heap.size]?=some (.cells A 85)):=ya _ _ _ _ _ _ (zH);have a0:Hid (((C.alloc (.cells z 85)).setRow C A).heap[w.heap.size]?=some (.cells z 85)):=rF (un a7.o _) _ _ an;have aa:Hid (Below V V ((C.alloc (.cells z 85)).setRow C A)):=xd (zi ac.o (zB.alloc zL _)) ac.o.size _;clear a4;go_wp2_with (first
    | (refine uo rfl 85 rfl z HZ.o ?_)
    | (refine Nl rfl 85 (.tmp 8) (.tmp 33) rfl C A rfl rfl 85 z (zH) (by rw[s.o];exact forI) (by rw[a9.o,s.o]) ao.o ?_)
    | (refine ZO (by kernel_rfl) 85 (.tmp 8) rfl C rfl 85 A (0,0) _ ak.o forT rfl (by rw[s.o];exact forI) ?_))
   generalize (C.alloc (.cells z 85)).setRow C A=w4 at *
   refine (F.o w4 (by omega)).mono ?_;rintro e w5 ⟨rfl,O⟩;have Z:=za (xV O ak.o);have av:=za (xV O a0.o);have aj:=za (zi aa.o O);obtain⟨ga,bb⟩:=zD C.heap.size;rw[bb.o]at Z an |-;clear O F ak a0 aa;go_wp2;go_loopw [43] (λi wr=>∃t:Nat,t<=4/\i=.int .i64 t/\Hid (wr.heap[w.heap.size]?=some (.cells z 85))/\Hid (wr.heap[ga]?=some (.cells A 85))/\Hid (Below V V wr)) (λi _=>4-(intOf i).toNat)
   .exact⟨0,by omega,rfl,av,Z,aj⟩
   .obtain⟨t,ht,rfl,d,b,m⟩:=hrel;by_cases ai:t<4
    .have ar:(t:Int)<4:=(by omega);have br:0<=(t:Int):=(by omega);obtain⟨NN,ah⟩:=zA (encN f t);have aW:Hid (NN.size=16):=(by rw[ah.o];exact Px _ _);have aQ:Hid (∀j,j<NN.size->A[t*48+j]?=NN[j]?):=(by rw[ah.o,HA.o];exact QY f t ai);go_wp2_with (refine uU (by kernel_rfl) 79 (.tmp 48) rfl ga (t*48) rfl 85 A NN (0,0) _ b.o aQ.o pL rfl (by rw[aW.o];exact Uv) ?_)
     go_loopw [50] (λi wr=>∃a:Nat,a<=16/\i=.int .i64 a/\Hid (wr.heap[w.heap.size]?=some (.cells z 85))/\Hid (wr.heap[ga]?=some (.cells A 85))/\Hid (Below V V wr)) (λi _=>16-(intOf i).toNat)
     .exact⟨0,by omega,rfl,d,b,m⟩
     .clear d b m;obtain⟨a,ha,rfl,d,b,m⟩:=hrel;by_cases ab:a<16
      .have a1:(a:Int)<16:=(by omega);obtain⟨y,Hy⟩:=zD (f.nd t a);have Y:∀W,(Instr.index 79 (.agg NN) (.int .i64 a)).run prog W=.ok (.int .i64 y) W:=λW=>
        jr _ _ 16 .i64 NN .i64 (a:Int) pL intT intS (by omega) (by omega) _ (by rw[yQ,ah.o,fX f t a ab,Hy.o.symm];unfold nu;rw[ze ab]) W
       have B:=za (λW=>aB.o t W ai);cases I:uB f t with
       | true=>
        rw[I]at B;have aY:=L.o.nds t a ai ab I;rw[Hy.o]at aY;have b1:decide (y<37)=false:=zJ (by omega);have b2:decide (k<=y)=false:=zJ (by omega);have b3:decide (y >= k)=false:=zJ (by omega);clear I;go_wp2_with (refine yI rfl 85 (.tmp 8) rfl ga rfl 85 A (0,0) _ b.o forT rfl (by rw[s.o];exact forI) ?_)
        refine (B.o wr).mono ?_;rintro e w6 ⟨rfl,n⟩;have Q:=za (xV n d.o);have S:=za (xV n b.o);have G:=za (zi m.o n);have a3:=za (P.o.size w6 (zi ae.o G.o));clear n B d b m Y;go_wp2_with fail
        refine a3.o.mono ?_;rintro e w7 ⟨rfl,R⟩;have aV:=za (xV R Q.o);have aZ:=za (xV R S.o);have aU:=za (zi G.o R);clear R Q S G a3;go_wp2;go_roundw
        .exact⟨a+1,by omega,by go_num,aV,aZ,aU⟩
        .simp[intOf];omega
       | false=>
        rw[I]at B;clear I;go_wp2_with (refine yI rfl 85 (.tmp 8) rfl ga rfl 85 A (0,0) _ b.o forT rfl (by rw[s.o];exact forI) ?_)
        refine (B.o wr).mono ?_;rintro e w6 ⟨rfl,n⟩;have Q:=za (xV n d.o);have S:=za (xV n b.o);have G:=za (zi m.o n);clear n B d b m Y;go_wp2;go_roundw
        .exact⟨a+1,by omega,by go_num,Q,S,G⟩
        .simp[intOf];omega
      .obtain rfl:a=16:=(by omega);have a1:¬((16:Nat):Int)<16:=(by omega);go_wp2;go_roundw
       .exact⟨t+1,by omega,by go_num,d,b,m⟩
       .simp[intOf];omega
    .obtain rfl:t=4:=(by omega);have ar:¬((4:Nat):Int)<4:=(by omega);go_wp2_with (first
      | (refine yI rfl 85 (.tmp 8) rfl ga rfl 85 A (0,0) _ b.o forT rfl (by rw[s.o];exact forI) ?_)
      | (refine Nl rfl 85 (.tmp 2) (.tmp 69) rfl w A rfl rfl 85 z d.o (by rw[s.o];exact forI) (by rw[a9.o,s.o]) ao.o ?_))
     refine yE (kQ rfl _ _ w 85 A (0,0) _ (.int .i64 0) rfl rfl (ya _ _ _ _ _ _ d.o) forT rfl (by rw[s.o];exact forI)) rfl ⟨rfl,?_⟩;exact xd (zi ae.o m.o) zL _
theorem Wz (h:RdAt w r N k) (b:16<=k) (f) (a:S8 N f k):
 Calls prog 81 #[.iface r.T r.u] w (κ w (.tuple #[.agg (encF f),()])):=Gy h b f a _ rfl
theorem EI (w) (n k) (E:37<=n) (G:n<k) (C:k<=256) (b4 b9 b7 b10) (S S2) (s) (z:Hid (S=enc s)) (y:Hid (S2=enc (ins s n))) (A:s n=false)
 (D:w.cell? ⟨b4,0,none⟩=some (.int .i64 k)) (B:Hid (w.heap[b9]?=some (.cells S 81))):
 Calls prog 167 #[(n:Int),.pointer (some ⟨b4,0,none⟩),.pointer (some ⟨b9,0,none⟩),.pointer (some ⟨b7,0,none⟩),.pointer (some ⟨b10,0,none⟩)] w
  (ρ (.tuple #[]) λw'=>yK (λi=>i=b9) w w'/\w'.heap[b9]?=some (.cells S2 81)):=by
 have c:Hid (S.size=32):=by show _=_;rw[z.o];exact tO _
 have a:Hid (S2.size=32):=by show _=_;rw[y.o];exact tO _
 have l:Hid (S2.all (·.oneCell')=true):=by show _=_;rw[y.o];exact Zx _
 have j:Hid (∀W,Calls prog 168 #[.agg S,n] W (κ W (.bool false))):=λW=>by have:=Dv s (n:Int) W (by omega) (by omega);rw[yQ,A]at this;rw[z.o];exact this
 have b:Hid (∀W,Calls prog 87 #[.agg S,n] W (κ W (.agg S2))):=λW=>by have:=jT s (n:Int) W (by omega) (by omega);rw[yQ]at this;rw[z.o,y.o];exact this
 have u:decide ((n:Int)<37)=false:=zJ (by omega);have v:decide (k<=(n:Int))=false:=zJ (by omega);have t:¬((n:Int)<37):=by omega
 have r:¬(k<=(n:Int)):=by omega
 clear A;go_enter func167,ntmps167;go_wp2_with (refine ZO (by kernel_rfl) 81 (.tmp 2) rfl b9 rfl 81 S (0,0) _ B.o setT rfl (by rw[c.o];exact setI) ?_)
 refine (j.o w).mono ?_;rintro e q ⟨rfl,f⟩;have g:=za (xV f B.o);have m:=za f;clear f D;go_wp2_with (refine yI rfl 81 (.tmp 2) rfl b9 rfl 81 S (0,0) _ g.o setT rfl (by rw[c.o];exact setI) ?_)
 refine (b.o q).mono ?_;rintro e x ⟨rfl,d⟩;have h:=za (xV d g.o);have p:=za (zi m.o d);clear d;go_wp2_with (refine Nl rfl 81 (.tmp 2) (.tmp 21) rfl b9 S2 rfl rfl 81 S h.o (by rw[a.o];exact setI) (by rw[a.o,c.o]) l.o ?_)
 go_end0
 exact⟨rfl,(yK.of_below p.o).step (yK.setRow (F:=λi=>i=b9) rfl _),ya _ _ _ _ _ _ h.o⟩
def rm (l:List Nat):Nat->Bool:=l.foldl ins emp
theorem gB (l) (n):rm (l++[n])=ins (rm l) n:=by unfold rm;rw[xf];rfl
theorem DT (l:List Nat):∀(s) (m),(l.foldl ins s) m=(s m||decide (m∈l)):=by
 induction l with
 | nil=>intro s m;simp
 | cons n l a=>
  intro s m;rw[ww,a];unfold ins;by_cases h:m=n<;>simp[h]
theorem mG (l) (m):rm l m=decide (m∈l):=by unfold rm;rw[DT];simp[emp]
def fA (P:List Int):List Nat:=(nzF P).map Int.toNat
def Mi (nd:Nat->Int) (n:Nat):List Nat:=(List.range n).map λi=>(nd i).toNat
def tV (L:List Pn):List Nat:=L.flatMap λx=>fA x.P
structure Yw (nd:Nat->Int) (L:List Pn) (hs:Nat->Bool) (k:Nat):Prop where
 nodup:(Mi nd 16++tV L).Nodup
 nds:∀i,i<16->37<=nd i/\nd i<(k:Int)
 pts:∀x∈L,∀p∈x.P,p=0\/(37<=p/\p<(k:Int))
 has:∀m,m<256->rm (Mi nd 16++tV L) m=hs m
 few:∀x∈L,x.P.length<=8
theorem E7 {x:Nat} {R:List Nat} (h:(A++x::R).Nodup):rm A x=false:=by rw[mG,zz];intro a;exact (wl.1 h).2.2 x a x xK rfl
theorem Gp (x) (l):nzF (x::l)=if x=0 then nzF l else x::nzF l:=by unfold nzF;rw[vT];by_cases h:x=0<;>simp[h]
theorem Gn (l) (x):nzF (l++[x])=if x=0 then nzF l else nzF l++[x]:=by rw[Oz,Gp];by_cases h:x=0<;>simp[h,nzF]
theorem setG: prog.eqGuardType prog.depth 81=false:=by kernel_rfl
structure PT (w wr:World) (k:Nat) (A S:Array Value):Prop where
 c4:wr.heap[w.heap.size]?=some (.cells #[k] 3)
 c5:wr.heap[w.heap.size+1]?=some (.cells A 83)
 c9:wr.heap[w.heap.size+1+1+1]?=some (.cells S 81)
 c10:wr.heap[w.heap.size+1+1+1+1]?=some (.cells #[.bool true] 4)
 below:Below w w wr
theorem PT.step {A:Array Value} (h:PT w wr k A S) (a:Below wr wr w2):PT w w2 k A S:=
 ⟨xV a h.c4,xV a h.c5,xV a h.c9,xV a h.c10,zi h.below a⟩
theorem PT.put {A S2:Array Value} (h:PT w wr k A S) (b:yK (λi=>i=w.heap.size+1+1+1) wr w2) (c:w2.heap[w.heap.size+1+1+1]?=some (.cells S2 81)):PT w w2 k A S2:=
 ⟨(
  b.block _ (xB h.c4) (by omega)).trans h.c4,(b.block _ (xB h.c5) (by omega)).trans h.c5,c,(b.block _ (xB h.c10) (by omega)).trans h.c10,
  ⟨b.os.trans h.below.os,b.tape.trans h.below.tape,b.output.trans h.below.output,zv h.below.size b.size,λi a=>(b.block i (zr a h.below.size) (by omega)).trans (h.below.block i a)⟩⟩
theorem jJ (nd) (j n) (h:j<=n):(Mi nd n).take j=Mi nd j:=by unfold Mi;rw[<-List.map_take,List.take_range,Cg h]
theorem TX (nd) (j):Mi nd (j+1)=Mi nd j++[(nd j).toNat]:=by unfold Mi;rw[vG,yo];rfl
theorem YZ {B:List Nat} (h:(A++B).Nodup):(A.take j).Nodup:=((wl.1 h).1).sublist (List.take_sublist _ _)
theorem Gi {nd:Nat->Int} {B:List Nat} (h:(Mi nd 16++B).Nodup) (b:j<16):rm (Mi nd j) (nd j).toNat=false:=by have a:=YZ (j:=j+1) h;rw[jJ _ _ _ (by omega),TX]at a;exact E7 (R:=[]) a
theorem oY (P:List Int) (a) (h):fA (P.take (a+1))=fA (P.take a)++(if P[a]=0 then [] else [P[a].toNat]):=by unfold fA;rw[Nu,zk h,Option.toList_some,Gn];split<;>simp
theorem Q0 (L:List Pn) (i) (h):tV (L.take (i+1))=tV (L.take i)++fA L[i].P:=by unfold tV;rw[Nu,zk h,Option.toList_some,vW];simp
theorem EV {L:List Pn} {i a:Nat} (h:(A++tV L).Nodup) (hi) (d:a<L[i].P.length) (e:L[i].P[a]≠0):rm (A++tV (L.take i)++fA (L[i].P.take a)) L[i].P[a].toNat=false:=by
 have c:fA L[i].P=fA (L[i].P.take (a+1))++fA (L[i].P.drop (a+1)):=by unfold fA;rw[<-yo,<-Oz,xr]
 have b:tV L=tV (L.take (i+1))++tV (L.drop (i+1)):=by unfold tV;rw[<-vW,xr]
 rw[b,Q0 L i hi,c,oY _ _ d,zb e]at h;refine E7 (R:=fA (L[i].P.drop (a+1))++tV (L.drop (i+1))) ?_;simpa[zR]using h
theorem YT (
 w) (
  nd) (hs) (k bm) (hk:k<=256) (A) (ab:Hid (A.size=48)) (_HA1:Hid (A.all (·.oneCell')=true)) (av:Hid (∀j,j<16->A[j]?=some (.int .i64 (nd j)))) (az:Hid (∀j,j<32->A[16+j]?=(enc hs)[j]?))
 (v) (E) (L) (G) (hv:uq w v 8 E.length (ue E)) (hE:Ns G w E L) (hl:L.length<=1000) (aa:Yw nd L hs k):
 Calls prog 134 #[(k:Int),.agg A,v,.map (some bm)] w
  (κ w (.bool true)):=by
 have l:=za aa;have HE:=za hE;obtain⟨R,H⟩:=zD E.length;obtain⟨p,cp,af,HP⟩:=rR hv;rw[H.o]at af HP;subst af;have bq:R<=1000:=by rw[<-H.o,hE.1];exact hl
 clear aa hE hv hl;obtain⟨Z,aq⟩:∃N:Array Value,Hid (N=(A.toList.take 16).toArray):=⟨_,rfl⟩;have V:Hid (Z.size=16):=by show _=_;rw[aq.o];have:=ab.o;simp;omega
 have aj:Hid (∀j,j<Z.size->A[0+j]?=Z[j]?):=λj M=>by rw[V.o]at M;rw[aq.o,yF,<-zK,xw,zI,ze M]
 obtain⟨Z0,ax⟩:=zA (enc emp);have HZ:Hid (∀w,(zeroValue 81).run prog w=.ok (.agg Z0) w):=by rw[ax.o];exact setZ
 have a7:Hid (Z0=enc (rm (Mi nd 0))):=by show _=_;rw[ax.o];rfl
 have H0:Hid (PT w (((((w.alloc (.cells #[k] 3)).alloc (.cells A 83)).alloc (.cells #[.map (some bm)] 89)).alloc (.cells Z0 81)).alloc (.cells #[.bool true] 4)) k A Z0):=
  ⟨un (un (un (un (zH) _) _) _) _,un (un (un (uD _ _ _ (by simp)) _) _) _,un (uD _ _ _ (by simp)) _,uD _ _ _ (by simp),
   ((((zB.alloc zL _).alloc (by simp) _).alloc (by simp;omega) _).alloc (by simp;omega) _).alloc (by simp;omega) _⟩
 go_enter func134,ntmps134
 go_wp2_with (first
  | (refine uo rfl 81 rfl Z0 HZ.o ?_)
  | (refine uU (by kernel_rfl) 79 (.tmp 19) rfl (w.heap.size+1) 0 rfl 83 A Z (0,0) _ H0.o.c5 aj.o pL rfl (by rw[V.o];exact Uv) ?_))
 generalize (((((w.alloc (.cells #[k] 3)).alloc (.cells A 83)).alloc (.cells #[.map (some bm)] 89)).alloc (.cells Z0 81)).alloc (.cells #[.bool true] 4))=w0 at *
 go_loopw [21] (λi wr=>∃j:Nat,j<=16/\i=.int .i64 j/\Hid (PT w wr k A (enc (rm (Mi nd j))))) (λi _=>16-(intOf i).toNat)
 .exact⟨0,by omega,rfl,by rw[<-a7.o];exact H0⟩
 .obtain⟨j,M,rfl,c⟩:=hrel;by_cases D:j<16
  .have z:(j:Int)<16:=(by omega);have J:=l.o.nds j D;obtain⟨y,Hy⟩:∃y:Nat,Hid (nd j=(y:Int)):=⟨(nd j).toNat,by show _=_;omega⟩;have au:∀W,(Instr.index 79 (.agg Z) (.int .i64 j)).run prog W=.ok (.int .i64 y) W:=λW=>
    jr _ _ 16 .i64 Z .i64 (j:Int) pL intT intS (by omega) (by omega) _ (by have h1:=aj.o j (by rw[V.o];exact D);rw[yQ,<-h1,yF,av.o j D,Hy.o]) W
   have b:=Gi l.o.nodup D;have h:=za (TX nd j);rw[Hy.o]at b J h;rw[yQ]at b h;have S:wr.cell? (w.heap.size,0)=some (.int .i64 k):=zC c.o.c4;have d:=za (EI wr y k (by omega) (by omega) hk w.heap.size (w.heap.size+1+1+1) (w.heap.size+1+1) (w.heap.size+1+1+1+1) _ _ (rm (Mi nd j)) rfl rfl b S c.o.c9);clear S b;go_wp2_with fail
   refine d.o.mono ?_;rintro e w3 ⟨rfl,s,t⟩;have f:Hid (PT w w3 k A (enc (rm (Mi nd (j+1))))):=(by rw[h.o,gB];exact c.o.put s t);clear s t d au;go_wp2;go_roundw
   .exact⟨j+1,by omega,by go_num,f⟩
   .simp[intOf];omega
  .obtain rfl:j=16:=(by omega);have z:¬((16:Nat):Int)<16:=(by omega);obtain⟨T,HT⟩:=zD (Mi nd 16);have ad:=za l.o.nodup;rw[HT.o]at c ad;have aw:Hid (PT w wr k A (enc (rm (T++tV (L.take 0))))):=(by show _;rw[show T++tV (L.take 0)=T by simp[tV]];exact c.o);have an:Hid (L.length=R):=(by show _=_;rw[<-H.o];exact HE.o.1.symm);go_wp2;go_loopw [30] (λi wr=>∃j:Nat,j<=R/\i=.int .i64 j/\Hid (PT w wr k A (enc (rm (T++tV (L.take j)))))) (λi _=>R-(intOf i).toNat)
   .exact⟨0,by omega,rfl,aw⟩
   .clear c aw;obtain⟨i,hi,rfl,c⟩:=hrel;by_cases ah:i<R
    .obtain⟨g,o,rfl,F,hc⟩:=HP.o (by omega);have al:i<E.length:=(by rw[H.o];exact ah);have u:i<L.length:=(by rw[an.o];exact ah);obtain⟨d0,d1,d2,d3,d4,d5,d6,d7⟩:=sB hc i al;have Y:=za ((HE.o.2 i al u));have ac:=za (l.o.few _ (Nj u));have ak:=za (l.o.pts _ (Nj u));have h:=za (Q0 L i u);have ae:=za (λa ha=>EV (a:=a) ad.o u ha);generalize L[i]=X at Y ac ak h ae;generalize E[i]=x at d0 d1 d2 d3 d4 d5 d6 d7 Y;obtain⟨xk,xm,xu,xg,xs,xl,ao,xq,C,xc⟩:=x;have B:=c.o.below;have c0:=(B.cell (p:=⟨g,o+i*8,none⟩) F).trans d0;have c1:=(B.cell (p:=⟨g,o+i*8+1,none⟩) F).trans d1;have c2:=(B.cell (p:=⟨g,o+i*8+2,none⟩) F).trans d2;have c3:=(B.cell (p:=⟨g,o+i*8+3,none⟩) F).trans d3;have S:=(B.cell (p:=⟨g,o+i*8+4,none⟩) F).trans d4;have c5:=(B.cell (p:=⟨g,o+i*8+5,none⟩) F).trans d5;have c6:=(B.cell (p:=⟨g,o+i*8+6,none⟩) F).trans d6;have c7:=(B.cell (p:=⟨g,o+i*8+7,none⟩) F).trans d7;dsimp only at c0 c1 c2 c3 S c5 c6 c7;have z:i<(R:Int):=(by omega);have bd:=zr F B.size;have ba:¬g=wr.heap.size:=(by omega);have aC:Hid (tP w (xq,C,xc) X.P):=Y.o.2.2.2.2.2.2.2.now;obtain⟨n,HN⟩:=zD X.P.length;obtain⟨pp,pc,aH,ar⟩:=kF aC.o;injection aH with e1 e2 e3;subst e1 e3;rw[HN.o]at e2 ar;subst e2;have bj:C<=8:=(by rw[<-HN.o];exact ac.o);clear hc d0 d1 d2 d3 d4 d5 d6 d7 B;have am:Hid (PT w (wr.alloc (.cells #[xk,xm,xu,xg,xs,xl,ao,(xq,C,xc)] 102)) k A (enc (rm (T++tV (L.take i)++fA (X.P.take 0))))):=(by show _;rw[show T++tV (L.take i)++fA (X.P.take 0)=T++tV (L.take i) by simp[fA,nzF]];exact c.o.step (zB.alloc zL _));go_wp2;generalize wr.alloc (.cells #[xk,xm,xu,xg,xs,xl,ao,(xq,C,xc)] 102)=wn at *
     go_loopw [37] (λi0 wr=>∃a:Nat,a<=C/\i0=.int .i64 a/\Hid (PT w wr k A (enc (rm (T++tV (L.take i)++fA (X.P.take a)))))) (λi0 _=>C-(intOf i0).toNat)
     .exact⟨0,by omega,rfl,am⟩
     .clear c am;obtain⟨a,ha,rfl,c⟩:=hrel;by_cases aI:a<C
      .have r:a<X.P.length:=(by rw[HN.o];exact aI);obtain⟨gp,op,rfl,a2⟩:=ar.o (by omega);have cj:=a2 a _ (pQ X.P a r);have ap:=zy cj;have cj:=(c.o.below.cell (p:=⟨gp,op+a,none⟩) ap).trans cj;have O:=za (oY X.P a r);have U:=ak.o _ (Nj r);have I:=ae.o a r;obtain⟨x,Hx⟩:=zD (X.P[a]' r);rw[Hx.o]at cj O U I;have ag:a<(C:Int):=(by omega);by_cases q:x=0
       .subst q;have f:Hid (PT w wr k A (enc (rm (T++tV (L.take i)++fA (X.P.take (a+1)))))):=(by rw[O.o,ze rfl,yY];exact c.o);clear I U;go_wp2;go_roundw
        .exact⟨a+1,by omega,by go_num,f⟩
        .simp[intOf];omega
       .have aJ:(x != 0)=true:=(by simpa using q);have b:=I q;obtain⟨y,Hy⟩:∃y:Nat,Hid (x=(y:Int)):=⟨x.toNat,by show _=_;omega⟩;have J:37<=y/\y<k:=(by have:=Hy.o;omega);have ai:Hid (fA (X.P.take (a+1))=fA (X.P.take a)++[y]):=(by show _=_;rw[O.o,zb q,Hy.o];rfl);rw[Hy.o]at b cj aJ;rw[yQ]at b;have S:wr.cell? (w.heap.size,0)=some (.int .i64 k):=zC c.o.c4;have d:=za (EI wr y k J.1 J.2 hk w (w.heap.size+1+1+1) (w.heap.size+1+1) (w.heap.size+1+1+1+1) _ _ (rm (T++tV (L.take i)++fA (X.P.take a))) rfl rfl b S c.o.c9);clear I U S b q;go_wp2_with fail
        refine d.o.mono ?_;rintro e w3 ⟨rfl,s,t⟩;have f:Hid (PT w w3 k A (enc (rm (T++tV (L.take i)++fA (X.P.take (a+1)))))):=(by rw[ai.o,<-zR,gB];exact c.o.put s t);clear s t d;go_wp2;go_roundw
        .exact⟨a+1,by omega,by go_num,f⟩
        .simp[intOf];omega
      .obtain rfl:a=C:=(by omega);have ag:¬a<(a:Int):=(by omega);have f:Hid (PT w wr k A (enc (rm (T++tV (L.take (i+1)))))):=(by rw[h.o,<-zR];have:=c.o;rw[<-HN.o,xN]at this;exact this);go_wp2;go_roundw
       .exact⟨i+1,by omega,by go_num,f⟩
       .simp[intOf];omega
    .obtain rfl:i=R:=(by omega);have z:¬i<(i:Int):=(by omega);obtain⟨Q,HQ⟩:=zA (enc hs);have a3:Hid (∀j,j<Q.size->A[16+j]?=Q[j]?):=λj M=>(by rw[HQ.o]at M |-;rw[tO]at M;exact az.o j M);have ay:Hid (Q.size=32):=(by show _=_;rw[HQ.o];exact tO _);have K:Hid (PT w wr k A Q):=(by have:=c.o;rw[<-an.o,xN]at this;have e:enc (rm (T++tV L))=Q:=(by rw[HQ.o,<-HT.o];exact OK λm hm=>l.o.has m hm);rw[e]at this;exact this);have aG:Hid (∀W,(Op.equalIn 10000 81 (.agg Q) (.agg Q)).run prog W=.ok true W):=λW=>(by rw[HQ.o];exact lT hs W);have aZ:wr.cell? (w.heap.size+1+1+1+1,0)=some (.bool true):=zC K.o.c10;go_wp2_with (first
      | (refine yI rfl 81 (.tmp 9) rfl (w.heap.size+1+1+1) rfl 81 Q (0,0) _ K.o.c9 setT rfl (by rw[ay.o];exact setI) ?_)
      | (refine uU (by kernel_rfl) 81 (.tmp 49) rfl (w.heap.size+1) 16 rfl 83 A Q (0,0) _ K.o.c5 a3.o setT rfl (by rw[ay.o];exact setI) ?_)
      | (refine kZ (by kernel_rfl) (.bool false) (Vd 81 81 (.tmp 48) (.tmp 50) rfl Q Q rfl rfl true aG.o setG) ?_))
     go_ret;exact⟨rfl,K.o.below⟩
theorem Ff (f) (k j) (a:j<32):(encT f k)[16+j]?=(enc (f.hs k))[j]? :=by rw[mu f k (16+j) (by omega),Nx _ j a];unfold nu;rw[zb (by omega),show 16+j-16=j by omega]
theorem YU (w) (f) (t k bm) (c:k<=256) (v) (E) (L) (G) (d:uq w v 8 E.length (ue E)) (g:Ns G w E L) (h:L.length<=1000) (b:Yw (f.nd t) L (f.hs t) k):
 Calls prog 134 #[(k:Int),.agg (encT f t),v,.map (some bm)] w
  (κ w (.bool true)):=
 YT w (f.nd t) (f.hs t) k bm c _ (sf f t) (fV f t) (λj a=>jQ f t j a) (λj a=>Ff f t j a) v E L G d g h b
theorem RS: prog.underlying 89=some (.map 3 4):=by kernel_rfl
theorem kt: ∀w,(zeroValue 4).run prog w=.ok (.bool false) w:=(ui (P:=prog) (t:=4) (v:=.bool false) (n:=1) (by kernel_rfl)).1
theorem Di {P:Nat->Prop} (h:∃m,P m):P (Classical.epsilon λm=>P m/\∀j,j<m->¬P j)/\∀j,P j->(Classical.epsilon λm=>P m/\∀j,j<m->¬P j)<=j:=by
 have b:∃m,P m/\∀j,j<m->¬P j:=by
  obtain⟨m,d⟩:=h
  induction m using Nat.strongRecOn with
  | _ m f=>
   by_cases c:∃j,j<m/\P j
   .obtain⟨j,b,a⟩:=c;exact f j b a
   .exact⟨m,d,λj b a=>c ⟨j,b,a⟩⟩
 have a:=Classical.epsilon_spec b;exact⟨a.1,λj e=>M0 λc=>a.2 j c e⟩
def subD (L:List Pn) (l:List En):List Int:=(l.filter λe=>decide ((L.getD (e.2-1).toNat zN).k=2)).map (·.2)
def ml (L:List Pn) (X:Nat->List En):Nat->Nat->List Int->List Int
 | 0,_,out=>out
 | f+1,k,out=>if k<out.length then ml L X f (k+1) (out++subD L (X (out.getD k 0-1).toNat)) else out
structure XW (L:List Pn) (X:Nat->List En):Prop where
 len:L.length=32
 ino:∀i,i<32->∀e∈X i,1<e.2/\e.2<=32
 few:∀i,i<32->(X i).length<=32
 up:∀i,i<32->∀e∈X i,(L.getD (e.2-1).toNat zN).k=2->(L.getD (e.2-1).toNat zN).up=(i:Int)+1
 one:∀i,i<32->(subD L (X i)).Nodup
 root:(L.getD 0 zN).k=2
structure oT (L:List Pn) (X:Nat->List En):Prop extends XW L X where
 all:∀n,n<32->(L.getD n zN).k=2->((n:Int)+1)∈ml L X 33 0 [1]
structure WI (L:List Pn) (k:Nat) (out:List Int):Prop where
 nd:out.Nodup
 le:k<=out.length
 at_:∀z∈out,1<=z/\z<=32/\(L.getD (z-1).toNat zN).k=2
 up:∀z∈out,z=1\/∃j,j<k/\out.getD j 0=(L.getD (z-1).toNat zN).up
section
variable {L : List Pn} {X : Nat->List En} {k : Nat} {out : List Int} {l : List En}
theorem ol:z∈subD L l↔∃e∈l,(L.getD (e.2-1).toNat zN).k=2/\e.2=z:=by
 unfold subD;simp only[yd,Mo,xe];constructor
 .rintro ⟨e,⟨a,b⟩,c⟩;exact⟨e,a,b,c⟩
 .rintro ⟨e,a,b,c⟩;exact⟨e,⟨a,b⟩,c⟩
theorem Et (L) (l) (e):subD L (l++[e])=if (L.getD (e.2-1).toNat zN).k=2 then subD L l++[e.2] else subD L l:=by
 unfold subD;rw[qh,yo];split
 .next h=>rw[vT,ze (by simpa using h)];rfl
 .next h=>rw[vT,zb (by simpa using h)];simp
theorem IW (L) (l r):subD L (l++r)=subD L l++subD L r:=by unfold subD;rw[qh,yo]
theorem X4 (L) (l):(subD L l).length<=l.length:=by unfold subD;rw[yD];exact vJ _ _
theorem new_at {S R:List Int} (h:(out++((S++[z])++R)).Nodup):z∉out++S:=by rw[<-zR,<-zR]at h;have a:=(wl.1 h).1;intro b;exact (wl.1 a).2.2 z b z (List.mem_singleton_self z) rfl
theorem Mb (h):out.getD k 0=out[k]:=by rw[zt,zk h];rfl
theorem WI.start (h:XW L X):WI L 0 [1]:=⟨by simp,yh _,λz a=>by rw[xZ]at a;subst a;exact⟨by omega,by omega,h.root⟩,λz a=>zu (xZ.1 a)⟩
theorem WI.len (h:WI L k out):out.length<=32:=by
 have:=ss h.nd (ys:=(List.range 32).map λj:Nat=>(j:Int)+1) λz a=>by have:=h.at_ z a;exact yd.2 ⟨(z-1).toNat,xy.2 (by omega),by omega⟩
 rw[yD,MB]at this;exact this
theorem WI.num (h:WI L k out) (hk):∃n:Nat,n<32/\out[k]=n+1/\(out.getD k 0-1).toNat=n:=by have a:=h.at_ _ (Nj hk);rw[Mb hk];exact⟨(out[k]-1).toNat,by omega,by omega,rfl⟩
theorem WI.new (h:WI L k out) (l:XW L X) (hk) (m:n<32) (i:out[k]=n+1) (o:z∈subD L (X n)):z∉out:=λg=>by
 obtain⟨e,b,d,rfl⟩:=ol.1 o;have f:=l.up n m e b d;rcases h.up _ g with a|⟨j,c,a⟩
 .have:=(l.ino n m e b).1;omega
 .rw[f,<-i,Mb (by omega)]at a;exact wy.1 h.nd j k (by omega) hk c a
theorem WI.step (h:WI L k out) (q:XW L X) (hk) (r:n<32) (p:out[k]=n+1):WI L (k+1) (out++subD L (X n)):=by
 have d:∀j,j<out.length->(out++subD L (X n)).getD j 0=out.getD j 0:=λj l=>by rw[zt,zt,zV l]
 refine⟨wl.2 ⟨h.nd,q.one n r,λa m b o=>?_⟩,by rw[zl];omega,λz c=>?_,λz c=>?_⟩
 .rintro rfl;exact h.new q hk r p o m
 .rcases yN.1 c with c|c
  .exact h.at_ z c
  .obtain⟨e,f,g,rfl⟩:=ol.1 c;have:=q.ino n r e f;exact⟨by omega,this.2,g⟩
 .rcases yN.1 c with c|c
  .rcases h.up z c with i|⟨j,l,i⟩
   .exact zu i
   .exact zw ⟨j,by omega,by rw[d j (by omega)];exact i⟩
  .obtain⟨e,f,g,rfl⟩:=ol.1 c;exact zw ⟨k,by omega,by rw[d k hk,Mb hk,p];exact (q.up n r e f g).symm⟩
end
def RR (out:List Int):List (Int×Value):=out.foldl (λl z=>putZ l z (.bool true)) []
theorem YP (out z):RR (out++[z])=putZ (RR out) z (.bool true):=by unfold RR;rw[xf];rfl
theorem R9 (z):∀(out:List Int) (l:List (Int×Value)) (p),(getZ l z).getD (.bool false)=.bool p->(getZ (out.foldl (λl z=>putZ l z (.bool true)) l) z).getD (.bool false)=.bool (p||decide (z∈out))
 | [],l,p,h=>by rw[lm,h];simp
 | x::out,l,p,h=>by
  rw[ww];by_cases a:z=x
  .subst a;rw[R9 z out _ true (by rw[NP];rfl)];simp
  .rw[R9 z out _ p (by rw[qE _ a];exact h)];simp[a]
theorem Wa (out z):(getZ (RR out) z).getD (.bool false)=.bool (decide (z∈out)):=by have:=R9 z out [] false rfl;rw[Bool.false_or]at this;exact this
theorem I4 (out):(RR out).length<=out.length:=by
 have:∀(out:List Int) (l:List (Int×Value)),(out.foldl (λl z=>putZ l z (.bool true)) l).length<=l.length+out.length:=λout=>by
  induction out with
  | nil=>exact λl=>zL
  | cons x out a=>
   intro l;have c:=a (putZ l x (.bool true));have b:=pT x (.bool true:Value) l;rw[ww,yv];omega
 have:=this out [];simpa[RR]using this
section
variable {P : Program}
theorem Oe (t ty e) (i) (l:P.underlying t=some (.slice e)) (n:P.info? e=some i)
 (g off sLen sCap) (cur) (o:w.heap[g]?=some (.cells cur e))
 (a) (m c) (news) (p:news.length=m*i.size) (f:∀j u,news[j]?=some u->w.cell? (a.add j)=some u) (q:∀u∈news,u.oneCell'=true)
 (h:sLen+m<=sCap) (k:off+sLen*i.size+news.length<=cur.size):
 (Builtin.append_ #[t,t] ty #[.slice (some ⟨g,off,none⟩) sLen sCap,.slice (some a) m c]).run P w =
  .ok (.slice (some ⟨g,off,none⟩) (sLen+m) sCap) (w.setRow g (cur.toList.take (off+sLen*i.size)++news++cur.toList.drop (off+sLen*i.size+news.length)).toArray):=by
 have d:=MQ (P:=P) w i.size m a m c news p f;have b:=wS P g (off+sLen*i.size) e news 0 cur w o (by simpa using k) q;simp only[va]at b;simp[Builtin.append_,wP l,sizeOf,typeInfo,n,Builtin.lenOf,h,d,Addr.add_lit,b]
end
structure QI (w:World) (B g:Nat) (t:Value) (l:List Int):Prop where
 ex:∃o c cur,t=.slice (some ⟨g,o,none⟩) l.length c/\l.length<=c/\w.heap[g]?=some (.cells cur 3)/\o+c<=cur.size/\(cur.toList.drop o).take l.length=ints l
 le:B<=g
theorem QI.cell (h:QI w B g (g,o,n,c) l) (j) (hj):w.cell? ⟨g,o+j,none⟩=some (.int .i64 l[j]):=by
 obtain⟨r,k,b,d,m,e,q,f⟩:=h.ex;injection d with a p i;injection a with a;injection a with _ a;subst a;rw[zC e,<-zK,<-yy];have:((b.toList.drop o).take l.length)[j]?=some (.int .i64 l[j]):=by rw[f];unfold ints;rw[xE,zk hj];rfl
 rw[Ms hj]at this;exact this
theorem QI.tail (h:QI w B g (g,o,(n+1),c) (x::l)):QI w B g (g,(if c=1 then o else o+1),n,(c-1)) l:=by
 obtain⟨s,q,b,i,k,j,r,e⟩:=h.ex;injection i with a m f;injection a with a;injection a with _ a;subst a f;rw[yv]at m k e;refine⟨⟨_,c-1,b,by congr 1;omega,by omega,j,by split<;>omega,?_⟩,h.le⟩;have d:=zQ (List.drop 1) e;rw[Ly]at d;rw[Lz]at d;by_cases p:c=1
 .obtain rfl:l=[]:=yz.1 (by omega);rfl
 .rw[zb p];exact d
theorem lB {o:Oper} {a:Act} (x) (i:o.op=.slice 33 x (some (.const (.int .i64 1))) none none) {q:Nat} (j:a.eval x=.slice (some (g,q)) n c) (k:1<=n) (l:n<=c) {q'} (m:(if c=1 then q else q+1)=q') (w):
 (execOp a.eval o).run prog w=.ok (.value (.slice (some ⟨g,q',none⟩) (n-1) (c-1))) w:=by
 subst m;have e:1<=(n:Int):=by omega
 have h:n<=(c:Int):=by omega
 have f:1<=(c:Int):=by omega
 have d:a.eval (.const (.int .i64 1))=.int .i64 1:=rfl;unfold execOp;simp only[i,j,Option.map,d];by_cases b:c=1
 .subst b;obtain rfl:n=1:=by omega
  simp[go_sem]
 .simp[go_sem,b,k,l,e,h,f]
theorem QI.below (h:QI w B g t l) (i:w'.heap[g]?=w.heap[g]?):QI w' B g t l:=by obtain⟨o,c,a,b,e,d,f⟩:=h.ex;exact⟨⟨o,c,a,b,e,i.trans d,f⟩,h.le⟩
theorem QI.append (h:QI w B g t l) (hB:B<=w.heap.size) (N:l.length<=1000) {gx:Nat} (M:w.cell? (gx,0)=some (.int .i64 x)) (ty):
 ∃v' w' g',(Builtin.append_ #[33,33] ty #[t,.slice (some ⟨gx,0,none⟩) 1 1]).run prog w=.ok v' w'/\QI w' B g' v' (l++[x])/\w.grownBy w' (some g):=by
 obtain⟨o,c,i,rfl,L,z,K,F⟩:=h.ex;obtain⟨G,v,A,d,D⟩:=yX kG;have n:∀(q p j),(⟨q,p,none⟩:Addr).add j=⟨q,p+j,none⟩:=λq p j=>by unfold Addr.add;split<;>simp_all
 have f:∀(j) (u),[Value.int .i64 x][j]?=some u->w.cell? ((⟨gx,0,none⟩:Addr).add j)=some u:=λj u m=>by
  cases j with
  | zero=>
   rw[n];have m:=tZ m;rw[<-m];exact M
  | succ j=>simp at m
 have a:(ints l).length=l.length:=by unfold ints;rw[yD]
 by_cases H:l.length+1<=c
 .have b:=Oe (P:=prog) (w:=w) 33 ty 3 G qG v g o l.length c i z ⟨gx,0,none⟩ 1 1 [.int .i64 x] (by rw[d];rfl) f (λu I=>by rw[xZ]at I;subst I;rfl) H (by rw[d];simp;omega);rw[d,vB]at b;have s:i.toList.length=i.size:=ye;refine⟨_,_,g,b,⟨⟨o,c,_,by rw[zl];rfl,by rw[zl];exact H,ya _ _ _ _ _ _ z,?_,?_⟩,h.le⟩,⟨rfl,rfl,rfl,by simp,λk _ C=>yO w g k _ (λe=>C (by rw[e]))⟩⟩
  .rw[uj,zl,zl,Ni,Nk,s,MM];omega
  .rw[xU,zR,vC (by rw[Ni,s];omega),Ly,show o+l.length-o=l.length by omega,F,zl,MM,<-zR,yC (by rw[zl,a];simp),zo (by rw[zl,a];simp)];simp[ints]
 .have E:c=l.length:=by omega
  subst E;have J:QI w B g (g,o,l.length,l.length) l:=⟨⟨o,_,i,rfl,zL,z,K,F⟩,h.le⟩;have b:=run_append_grow (P:=prog) (w:=w) 33 ty 3 G (.int .i64 0) qG v A ⟨g,o,none⟩ l.length l.length (ints l) (by rw[a,d,vB]) (λj u m=>by have r:=(zG.1 m).1;rw[a]at r;have:=J.cell j r;rw[n,this];unfold ints at m;rw[xE,zk r]at m;exact m) ⟨gx,0,none⟩ 1 1 [.int .i64 x] (by rw[d];rfl) f (by omega) (by omega) (growslice_fits (by omega) (by rw[D];omega));have y:=MO w (l.length+1) l.length 3;refine⟨_,_,w.heap.size,b,⟨⟨0,_,_,by rw[zl];rfl,by rw[zl];exact y,zO w.drew _,?_,?_⟩,hB⟩,⟨rfl,rfl,rfl,by simp,λk C _=>uW w.drew _ C⟩⟩
  .simp only[Array.size_append,uj,sJ,a];simp[Value.cells];omega
  .simp only[vy,Array.toList_append,zR,zl,MM];rw[<-zR,yC (by rw[zl,a];simp),zo (by rw[zl,a];simp)];simp[ints]
def WayR (L:List Pn) (X:Nat->List En) (R:List Int) (w:World) (m:Nat) (t:Value) (wr:World):Prop:=
 ∃out gq,m<=33/\WI L (33-m) out/\ml L X m (33-m) out=R/\QI wr w gq t (out.drop (33-m))/\Below w w wr/\MapL prog 3 wr w (RR out)
theorem LM (
 w) (v) (E) (L) (G) (hv:uq w v 8 E.length (ue E)) (hE:Ns G w E L) (X) (ad:oT L X) (ge ce bm) (xv:Nat->Value) (hx:∀i,i<32->w.cell? ⟨ge,i,none⟩=some (xv i)/\qM w (xv i) (X i)):
 Calls prog 136 #[v,.slice (some ⟨ge,0,none⟩) 32 ce,.map (some bm)] w
  (κ w (.tuple #[])):=by
 have A:=za ad;have HE:=za hE;have aA:E.length=32:=by rw[hE.1];exact ad.len
 obtain⟨p,cp,aI,HP⟩:=rR hv;rw[aA]at aI HP;subst aI;obtain⟨g,o,rfl,f,hc⟩:=HP.o (by omega);have HC:=za hc;have aT:=za aA;have HX:=za hx;have aM:ge<w.heap.size:=zy (hx 0 (by omega)).1;obtain⟨R,HR⟩:=zD (ml L X 33 0 [1]);have bJ:=za (WI.start ad.1);clear ad hE hv hc aA HP hx;have c4:=@run_makeMap prog;obtain⟨w1,d,D,aV⟩:=(oI (P:=prog) (K:=3) w).store intT RS (by simp) (k:=1) (by unfold InZ;omega) (.bool true);have ah:=za (Cd (zB.alloc zL _) aV.grown (by simp) (λq H=>by injection H with H;omega));have aD:=za D;clear D aV;go_enter func136,ntmps136;go_wp2;have aN:Hid (Below w w (w1.alloc (.cells #[(1:Int)] 3))):=ah.o.alloc ah.o.size _;have aZ:Hid (MapL prog 3 (w1.alloc (.cells #[(1:Int)] 3)) w (RR [1])):=aD.o.of_block (wN _ _ _ aD.o.lt);have ay:Hid (QI (w1.alloc (.cells #[(1:Int)] 3)) w w1 (.slice (some ⟨w1.heap.size,0,none⟩) 1 1) [1]):=⟨⟨0,1,_,rfl,zL,zH,zL,rfl⟩,ah.o.size⟩;obtain⟨gt,b6⟩:=zD w1.heap.size;rw[b6.o]at ay |-;generalize w1.alloc (.cells #[(1:Int)] 3)=w2 at *
 go_loopw [7] (λt wr=>∃m,WayR L X R w m t wr) (λt wr=>Classical.epsilon λm=>WayR L X R w m t wr/\∀j,j<m->¬WayR L X R w j t wr)
 .exact⟨33,[1],gt,zL,bJ.o,HR.o,ay.o,aN.o,aZ.o⟩
 .clear aN aZ ay d ah aD;obtain⟨hm,_⟩:=Di hrel;obtain⟨m,Hm⟩:∃m,Hid ((Classical.epsilon λm=>WayR L X R w m u7 wr/\∀j,j<m->¬WayR L X R w j u7 wr)=m):=⟨_,za rfl⟩;rw[Hm.o]at hm;obtain⟨b,gq,bd,F,s,H,hb,aW⟩:=hm;have bb:=za F.len;have bP:=F.len;have b3:=F.le;obtain⟨m,rfl⟩:∃m',m=m'+1:=⟨m-1,by omega⟩;obtain⟨k,hk⟩:∃k,33-(m+1)=k:=⟨_,rfl⟩;rw[hk]at F s H b3;have cu:m+1+k=33:=by omega
  obtain⟨oq,cq,cm,ht,_⟩:=id H.ex;subst ht;have C:=za hb;have V:=za aW;have a4:=za F;unfold ml at s;clear bd hb aW hk hrel;by_cases l:k<b.length
  .rw[ze l]at s;obtain⟨n,hn,aq,aa⟩:=F.num l;rw[aa]at s;have bA:=za s;have aC:b.drop k=((n:Int)+1)::b.drop (k+1):=(by rw[yR l,aq]);obtain⟨M1,D⟩:∃x,(b.drop k).length=x:=⟨_,rfl⟩;have af:(b.drop (k+1)).length=M1-1/\0<M1:=(by rw[<-D,aC,yv];omega);have b4:M1<=cq:=(by obtain⟨o',c',_,I,U,_⟩:=H.ex;rw[D]at U I;injection I with _ _ I;omega);rw[D]at H Hm |-;rw[aC]at H;have c0:=H.cell 0 (by simp);simp only[va,List.getElem_cons_zero]at c0;obtain⟨op,aR⟩:=zD (if cq=1 then oq else oq+1);have b5:Hid (QI wr w gq (gq,op,(M1-1),(cq-1)) (b.drop (k+1))):=(by obtain⟨y,rfl⟩:∃y,M1=y+1:=⟨M1-1,by omega⟩;rw[<-aR.o];exact H.tail);have x0:=(C.o.cell (p:=⟨ge,n,none⟩) aM).trans (HX.o n hn).1;have az:=(HX.o n hn).2;generalize xv n=y at x0 az;obtain⟨N,HN⟩:=zA ((X n).length);obtain⟨px,cx,rfl,aY⟩:=kJ az N HN.o;have bu:=za aY;have cb:N<=32:=(by rw[HN.o];exact A.o.few n hn);have c2:=za af.1;have af:=af.2;have i1:IntKind.i64.wrap (n+1-1)=n:=(by rw[zM _ (by omega)];omega);have bI:0<(M1:Int):=(by omega);have cv:=zX bI;have cz:1<=(M1:Int):=(by omega);have aS:=za aq;have bE:(n:Int)<32:=(by omega);clear H s aa aC aY az F D aq;go_wp2_with (refine kZ (by kernel_rfl) _ (lB (.tmp 23) rfl rfl af b4 aR.o) ?_)
   go_loopw [7,31] (λt i wq=>∃(j gj:Nat),j<=N/\i=.int .i64 j/\Hid (QI wq w gj t (b.drop (k+1)++subD L ((X n).take j)))/\Hid (Below w w wq)/\Hid (MapL prog 3 wq w (RR (b++subD L ((X n).take j))))) (λ_ i _=>N-(intOf i).toNat)
   .exact⟨0,gq,by omega,rfl,by show QI _ _ _ _ _;simpa[subD]using b5.o,C,by show MapL _ _ _ _ _;simpa[subD]using V.o⟩
   .clear c0 x0;obtain⟨j,gj,hj,rfl,HQ,a,T⟩:=hrel;obtain⟨ot,ct,cc,bx,bF,b8,_⟩:=id HQ.o.ex;subst bx;have a2:=za b8;obtain⟨Lt,bD⟩:=zD ((b.drop (k+1)++subD L ((X n).take j)).length);rw[bD.o]at HQ bF |-;by_cases W:j<N
    .have a8:j<(X n).length:=(by rw[<-HN.o];exact W);obtain⟨gx,ox,rfl,aw,bt⟩:=bu.o (by omega);obtain⟨d0,d1⟩:=bt j a8;have d0:=(a.o.cell (p:=⟨gx,ox+j*2,none⟩) aw).trans d0;have d1:=(a.o.cell (p:=⟨gx,ox+(j*2+1),none⟩) aw).trans d1;have u:=Nj a8;have aJ:=A.o.ino n hn _ u;have d:=A.o.up n hn _ u;have c:=Et L ((X n).take j) (X n)[j];rw[zU a8]at c;have aj:=(a4.o.step A.o.1 l hn aS.o).nd;generalize (X n)[j]=x at d0 d1 aJ d c u;obtain⟨xs,xi⟩:=x;dsimp only at d0 d1 aJ d c;obtain⟨q,Hq⟩:∃q:Nat,xi=(q:Int)+1:=⟨(xi-1).toNat,by omega⟩;subst Hq;have bT:1<=q/\q<32:=(by omega);have bH:((q:Int)+1-1).toNat=q:=(by omega);rw[bH]at d c;have i2:IntKind.i64.wrap (q+1-1)=q:=(by rw[zM _ (by omega)];omega);have S:q<E.length:=(by rw[aT.o];omega);have O:q<L.length:=(by rw[A.o.len];omega);obtain⟨Z,I,U,e3,e4,e5,e6,e7⟩:=sB HC.o q S;have ae:=HE.o.2 q S O;have M:(L.getD q zN).k=E[q].k:=(by rw[ae.1,zt,zk O];rfl);have a3:(L.getD q zN).up=E[q].up:=(by rw[ae.2.2.2.2.2.2.1,zt,zk O];rfl);rw[M]at d c;rw[a3]at d;generalize E[q]=y at Z I U e3 e4 e5 e6 e7 d c;obtain⟨yk,ym,yu,yg,ys,yl,a1,yq,yn,yc⟩:=y;have Z:=(a.o.cell (p:=⟨g,o+q*8,none⟩) f).trans Z;have I:=(a.o.cell (p:=⟨g,o+q*8+1,none⟩) f).trans I;have U:=(a.o.cell (p:=⟨g,o+q*8+2,none⟩) f).trans U;have e3:=(a.o.cell (p:=⟨g,o+q*8+3,none⟩) f).trans e3;have e4:=(a.o.cell (p:=⟨g,o+q*8+4,none⟩) f).trans e4;have e5:=(a.o.cell (p:=⟨g,o+q*8+5,none⟩) f).trans e5;have e6:=(a.o.cell (p:=⟨g,o+q*8+6,none⟩) f).trans e6;have e7:=(a.o.cell (p:=⟨g,o+q*8+7,none⟩) f).trans e7;dsimp only at Z I U e3 e4 e5 e6 e7 d c;have aX:j<(N:Int):=(by omega);have bz:=zr f a.o.size;have aa:¬g=wr.heap.size:=(by omega);have cf:¬g=wr.heap.size+1:=(by omega);have bX:=zr aw a.o.size;have bO:¬gx=wr.heap.size:=(by omega);have c1:ox+j*2+1=ox+(j*2+1):=(by omega);have B:Hid (Below wr wr ((wr.alloc (.cells #[.string xs,.int .i64 (q+1)] 112)).alloc (.cells #[yk,ym,yu,yg,ys,yl,a1,(yq,yn,yc)] 102))):=(zB.alloc zL _).alloc (by simp) _;have h:=za (T.o.of_block (B.o.block _ T.o.lt));by_cases z:yk=2
     .have aK:=d z;clear d;rw[ze z]at c;subst z aK;have an:((q:Int)+1)∉b++subD L ((X n).take j):=(by have e:subD L (X n)=subD L ((X n).take (j+1))++subD L ((X n).drop (j+1)):=(by rw[<-IW,xr]);rw[e,c]at aj;exact new_at aj);have au:=h.o.look (k:=(q:Int)+1) intT RS (kt _) (by unfold InZ;omega);rw[Wa,zJ an]at au;obtain⟨w5,cr,Q,aH⟩:=h.o.store intT RS (by have Y:=I4 (b++subD L ((X n).take j));have z:=X4 L ((X n).take j);have h3:=bb.out;rw[zl]at Y;rw[Ni]at z;omega) (k:=(q:Int)+1) (by unfold InZ;omega) (.bool true);rw[<-YP,zR,<-c]at Q;have a5:Hid (yK (λi=>i=w.heap.size) _ w5):=yK.grown aH.grown (λr hr=>by injection hr with hr;exact hr.symm);have a9:=za ((a.o.trans (B.o.mono a.o.size)).trans (a5.o.to_below (λi hi=>by rw[hi];exact zL) (by have:=a.o.size;simp;omega)));have am:gj≠w.heap.size:=(by rintro rfl;obtain⟨es,bw,Y,_⟩:=T.o.1;rw[a2.o]at Y;cases Y);have aP:=xB a2.o;have aL:=za (HQ.o.below ((a5.o.block _ (by simp;omega) am).trans (B.o.block _ aP)));have c5:w5.cell? (wr.heap.size,1)=some (.int .i64 (q+1)):=(by have Y:=(a5.o.block _ (by simp;omega) (by have:=a.o.size;have:=T.o.lt;omega)).trans (xV ((zB.alloc zL _):Below (wr.alloc (.cells #[.string xs,.int .i64 ((q:Int)+1)] 112)).heap.size _ (((wr.alloc (.cells #[.string xs,.int .i64 ((q:Int)+1)] 112))).alloc (.cells #[(2:Int),ym,yu,yg,ys,yl,.int .i64 (n+1),(yq,yn,yc)] 102))) (zH));rw[zC Y];rfl);have ab:(b.drop (k+1)++subD L ((X n).take j)).length<=1000:=(by have z:=X4 L ((X n).take j);have h3:=bb.out;rw[Ni]at z;rw[zl,Nk];omega);have a0:Hid (Below w5 w5 (w5.alloc (.cells #[.int .i64 (q+1)] 3))):=zB.alloc zL _;obtain⟨v7,w7,g7,aU,a7,aQ⟩:=QI.append (aL.o.below (a0.o.block _ (by obtain⟨_,_,bM,_,_,Y,_⟩:=aL.o.ex;exact xB Y))) (by have:=a9.o.size;simp;omega) ab (gx:=w5.heap.size) (x:=(q:Int)+1) (by rw[zC (zO w5 (.cells #[.int .i64 ((q:Int)+1)] 3))];rfl) 33;rw[zR,<-c]at a7;have b0:=za a7;have ba:Hid (yK (λi=>i=gj) _ w7):=yK.grown aQ (λr hr=>by injection hr with hr;exact hr.symm);have bB:=za (((zi a9.o a0.o)).trans (ba.o.to_below (λi hi=>by rw[hi];exact HQ.o.le) (by have:=a9.o.size;simp;omega)));have b9:=za ((MapL.of_block Q (a0.o.block _ Q.lt)).of_block (ba.o.block _ (by have:=Q.lt;simp;omega) (yA am)));clear a7 aQ Q aH an u aj ae M a3;go_wp2_with (at_builtin;refine Mv _ rfl _ _ _ _ rfl _ _ rfl rfl _ _ aU ?_)
      go_roundw
      .exact⟨j+1,g7,by omega,by go_num,b0,bB,b9⟩
      .simp[intOf];omega
     .rw[zb z]at c;have b2:(yk != 2)=true:=(by simpa using z);clear z d u aj ae M a3;go_wp2;go_roundw
      .exact⟨j+1,gj,by omega,by go_num,by show QI _ _ _ _ _;rw[c];have:=HQ.o.below (B.o.block _ (xB a2.o));exact this,zi a.o B.o,by show MapL _ _ _ _ _;rw[c];exact h.o⟩
      .simp[intOf];omega
    .obtain rfl:j=N:=(by omega);have aX:¬j<(j:Int):=(by omega);have ar:Hid (WayR L X R w m (gj,ot,Lt,ct) wr):=by
      have et:(X n).take j=X n:=(by rw[HN.o,xN]);have H:=HQ.o;have hm:=T.o;rw[et]at H hm;have ax:33-m=k+1:=(by omega);refine⟨b++subD L (X n),gj,by omega,?_,?_,?_,a.o,hm⟩
      .rw[ax];exact a4.o.step A.o.1 l hn aS.o
      .rw[ax];exact bA.o
      .rw[ax,vC (by omega)];exact H
     go_wp2;go_roundw;case rel=>exact⟨m,ar.o⟩
     case measure =>have Y:=(Di (P:=λm=>WayR L X R w m (gj,ot,Lt,ct) wr) ⟨m,ar.o⟩).2 m ar.o;have z:=Hm.o;exact Nat.lt_of_le_of_lt Y (by rw[z];omega)
  .rw[zb l]at s;subst s;have bs:(b.drop k).length=0:=(by rw[Nk];omega);rw[bs]at Hm |-;clear H a4;go_wp2;go_loopw [66] (λi wr=>∃j:Nat,j<=32/\i=.int .i64 j/\Hid (Below w w wr)/\Hid (MapL prog 3 wr w (RR b))) (λi _=>32-(intOf i).toNat)
   .exact⟨0,by omega,rfl,C,V⟩
   .clear C V;obtain⟨n,hn,rfl,C,HM⟩:=hrel;by_cases l:n<32
    .have S:n<E.length:=(by rw[aT.o];omega);have O:n<L.length:=(by rw[A.o.len];omega);obtain⟨Z,I,U,e3,e4,e5,e6,e7⟩:=sB HC.o n S;have J:=A.o.all n l;have M:(L.getD n zN).k=E[n].k:=(by rw[(HE.o.2 n S O).1,zt,zk O];rfl);rw[M,HR.o]at J;clear M;generalize E[n]=y at Z I U e3 e4 e5 e6 e7 J;obtain⟨yk,ym,yu,yg,ys,yl,a1,yq,yn,yc⟩:=y;have Z:=(C.o.cell (p:=⟨g,o+n*8,none⟩) f).trans Z;have I:=(C.o.cell (p:=⟨g,o+n*8+1,none⟩) f).trans I;have U:=(C.o.cell (p:=⟨g,o+n*8+2,none⟩) f).trans U;have e3:=(C.o.cell (p:=⟨g,o+n*8+3,none⟩) f).trans e3;have e4:=(C.o.cell (p:=⟨g,o+n*8+4,none⟩) f).trans e4;have e5:=(C.o.cell (p:=⟨g,o+n*8+5,none⟩) f).trans e5;have e6:=(C.o.cell (p:=⟨g,o+n*8+6,none⟩) f).trans e6;have e7:=(C.o.cell (p:=⟨g,o+n*8+7,none⟩) f).trans e7;dsimp only at Z I U e3 e4 e5 e6 e7 J;have W:(n:Int)<32:=(by omega);have bz:=zr f C.o.size;have aa:¬g=wr.heap.size:=(by omega);have B:Hid (Below wr wr (wr.alloc (.cells #[yk,ym,yu,yg,ys,yl,a1,(yq,yn,yc)] 102))):=zB.alloc zL _;have h:=za (HM.o.of_block (B.o.block _ HM.o.lt));have aE:=za (zi C.o B.o);by_cases z:yk=2
     .have bc:=J z;subst z;have au:=h.o.look (k:=(n:Int)+1) intT RS (kt _) (by unfold InZ;omega);rw[Wa,zX bc]at au;clear J bc;by_cases c3:0<yl
      .go_wp2;go_roundw
       .exact⟨n+1,by omega,by go_num,aE,h⟩
       .simp[intOf];omega
      .go_wp2;go_roundw
       .exact⟨n+1,by omega,by go_num,aE,h⟩
       .simp[intOf];omega
     .have b2:(yk==2)=false:=(by simpa using z);clear z J;go_wp2;go_roundw
      .exact⟨n+1,by omega,by go_num,aE,h⟩
      .simp[intOf];omega
    .obtain rfl:n=32:=(by omega);have W:¬((32:Nat):Int)<32:=(by omega);go_wp2
     go_end0
     exact⟨rfl,C.o⟩
