import Derived.Test.YtakfhadmokoikaaGreatDoorKA5
import Derived.Test.YtakfhadmokoikaaGreatDoorKA18
import Derived.Test.YtakfhadmokoikaaGreatDoorKA22
set_option maxHeartbeats 0
set_option linter.all false
set_option maxRecDepth 100000
namespace Go.Proofs.YtakfhadmokoikaaGreatDoor
open Go.Proofs.Tryz Go.RowKit
variable {A B:List Nat} {E:List Nd} {G G':Nat->Prop} {N:Nat->List Int} {S:Array Value} {e:Nd} {j k n:Nat} {r:Rdr} {v:Value} {w w1 w2 wr:World} {xs:List Value}
def Out (G:Nat->Prop) (w:World) (φ:World->Prop):Prop:=∀w',yK G w w'->φ w'
section
variable {G G' : Nat->Prop} {w w1 : World} {φ ψ : World->Prop}
theorem Out.now (h:Out G w φ):φ w:=h w (yK.refl _ _)
theorem Out.keep (h:Out G w φ) (k:yK G w w1):Out G w1 φ:=fun a b=>h a (k.step b)
theorem Out.below (h:Out G w φ) (k:Below w w w1):Out G w1 φ:=h.keep (yK.of_below k)
theorem Out.grow (h:Out G w φ) (c:∀i,i<w.heap.size->G' i->G i):Out G' w φ:=fun a b=>h a (b.mono c)
theorem Out.mono (h:Out G w φ) (f:∀w',φ w'->ψ w'):Out G w ψ:=fun w' a=>f w' (h w' a)
end
theorem Zg {w':World} (h:xT w v k n xs) (m:∀b,v.ownBlock=some b->b<w.heap.size->w'.heap[b]?=w.heap[b]?):xT w' v k n xs:=by obtain⟨f,e⟩:=h;refine⟨f,e.imp id ?_⟩;rintro ⟨g,a,c,rfl,i⟩;refine⟨g,a,c,rfl,fun j x l=>?_⟩;have d:=i j x l;exact (vi (m g rfl (zG d))).trans d
theorem fY (h:xT w v k n xs) (e:∀b,v.ownBlock=some b->b<w.heap.size->¬G b):Out G w (fun w'=>xT w' v k n xs):=
 fun _ c=>Zg h fun b d a=>c.block b a (e b d a)
theorem gE {base:Nat} {e:TypeId} {size:Nat} (h:w.ownsRow base e size v n xs) (d:∀b,v.ownBlock=some b->¬G b):Out G w (fun w'=>w'.ownsRow base e size v n xs):=
 fun _ c=>uV h fun q a=>c.block q (h.lt q a).2 (d q a)
structure Pn where
 k:Int
 m:Int
 u:Int
 g:Int
 s:Int
 l:Int
 up:Int
 P:List Int
def zN : Pn:=⟨0,0,0,0,0,0,0,[]⟩
def NdIs (G:Nat->Prop) (w:World) (e:Nd) (x:Pn):Prop:=
 e.k=x.k/\e.m=x.m/\e.u=x.u/\e.g=x.g/\e.s=x.s/\e.l=x.l/\e.up=x.up/\Out G w (fun w'=>vQ w' (e.q,e.n,e.c) x.P)
theorem NdIs.keep {x:Pn} (h:NdIs G w e x) (k:yK G w w1):NdIs G w1 e x:=by obtain⟨f,c,j,d,i,a,g,b⟩:=h;exact⟨f,c,j,d,i,a,g,b.keep k⟩
theorem NdIs.grow {x:Pn} (h:NdIs G w e x) (l:∀i,i<w.heap.size->G' i->G i):NdIs G' w e x:=by obtain⟨f,c,k,d,j,a,g,b⟩:=h;exact⟨f,c,k,d,j,a,g,b.grow l⟩
def tP (G:Nat->Prop) (w:World) (E:List Nd) (L:List Pn):Prop:=E.length=L.length/\∀i (h:i<E.length) (h':i<L.length),NdIs G w E[i] L[i]
theorem tP.keep {L:List Pn} (h:tP G w E L) (k:yK G w w1):tP G w1 E L:=⟨h.1,fun i a b=>(h.2 i a b).keep k⟩
theorem tP.grow {L:List Pn} (h:tP G w E L) (c:∀i,i<w.heap.size->G' i->G i):tP G' w E L:=⟨h.1,fun i a b=>(h.2 i a b).grow c⟩
theorem tP.snoc {L:List Pn} {x:Pn} (h:tP G w E L) (f:NdIs G w e x):tP G w (E++[e]) (L++[x]):=by
 refine⟨by simp[h.1],fun i c d=>?_⟩;by_cases a:i<E.length
 .rw[List.getElem_append_left a,List.getElem_append_left (by rw[<-h.1];exact a)];exact h.2 i a (by rw[<-h.1];exact a)
 .have b:i=E.length:=by simp at c;omega
  subst b;rw[fG zL,fG (by rw[h.1];exact zL)];simpa using f
theorem tP.set {L:List Pn} {x:Pn} (h:tP G w E L) (d:NdIs G w e x) (j:Nat):tP G w (E.set j e) (L.set j x):=by
 refine⟨by simp[h.1],fun i b c=>?_⟩;rw[List.getElem_set,List.getElem_set];by_cases a:j=i
 .rw[ze a,ze a];exact d
 .rw[zb a,zb a];exact h.2 i (by simpa using b) (by simpa using c)
theorem tP.nil (G:Nat->Prop) (w:World):tP G w [] []:=⟨rfl,fun i h=>by simp at h⟩
theorem UX {B:Nat} {P:List Int} (h:iY B w v P) (e:∀i,i<w.heap.size->G i->i<B):Out G w (fun w'=>vQ w' v P):=
 fY h.1 fun b d c a=>by have:=h.2 b d;have:=e b c a;omega
def pnOf (bs:List Int):Pn:=⟨bs.getD 0 0,bs.getD 1 0+bs.getD 2 0*256,bs.getD 3 0,bs.getD 4 0,bs.getD 5 0+bs.getD 6 0*256,bs.getD 7 0,bs.getD 8 0,ptsN bs⟩
def half (D:List Int) (i:Nat):List Int:=(D.drop (32*i)).take 32
def nl (N:Nat->List Int) (nd:Nat->Int) (j:Nat):List Int:=half (N (nd (j / 2)).toNat) (j%2)
def sQ (N:Nat->List Int) (nd:Nat->Int) (n:Nat):List Pn:=(List.range n).map fun j=>pnOf (nl N nd j)
theorem OO (N:Nat->List Int) (a:Nat->Int) (n:Nat):sQ N a (n+1)=sQ N a n++[pnOf (nl N a n)]:=by unfold sQ;rw[vH,yB];rfl
theorem L0 (N:Nat->List Int) (a:Nat->Int) (n:Nat):(sQ N a n).length=n:=by simp[sQ]
theorem ZH: (prog.info? 59).map (fun i=>(i.zero,i.size,i.bytes))=some (some (.agg #[(),(),(),(),(),(),(),.slice none 0 0]),8,80):=by kernel_rfl
theorem ndsT: prog.underlying 97=some (.slice 59):=by kernel_rfl
theorem Mv (E:List Nd) (e:Nd):uu (E++[e])=uu E++nd8 e:=by unfold uu;rw[vJ];simp
def jh (N:Nat->List Int) (nd:Nat->Int) (k:Nat):Prop:=(∀j,j<16->0<=nd j/\nd j<(k:Int))/\∀j,j<32->o9 (nl N nd j)
def mm (w:World) (o:Value):Nat->Prop:=fun i=>i<w.heap.size\/o.ownBlock=some i
def kL (w:World) (v:Value) (L:List Pn) (w':World):Prop:=∃E,w'.ownsRow (w.heap.size+1) 59 8 v L.length (uu E)/\tP (mm w v) w' E L/\Below w w w'
theorem NF {g cap:Nat} {cur:Array Value} {D:List Int} (h:D.length=64) (d:w.heap[g]?=some (.cells cur 5)) (f:cur.toList.take 64=u8s D) (i:Nat) (k:i<2):
 vC w (.slice (some (g,32*i)) 32 cap) (half D i):=by
 have b:(half D i).length=32:=by unfold half;rw[zi,yx];omega
 refine⟨by rw[vO,vD],zu ⟨g,32*i,cap,by rw[b],fun j x c=>?_⟩⟩;have a:=(zy.1 c).1;rw[vO,b]at a;rw[zC d,<-zP];have e:cur.toList[32*i+j]?=(u8s D)[32*i+j]? :=by rw[<-f,zI,ze (by omega)]
 rw[e,<-c];unfold half;rw[od,mr,zI,ze a,yo]
theorem Si (h:RdAt w r N k) (nd:Nat->Int) (A:Array Value) (ag:Hid (A.size=48)) (_HA1:Hid (A.all (·.oneCell')=true)) (ah:Hid (∀j,j<16->A[j]?=some (.int .i64 (nd j)))) (af:jh N nd k):
 Calls prog 53 #[.iface r.T r.u,.agg A] w
  (fun e w'=>∃v,e=.returned (.tuple #[v,()])/\kL w v (sQ N nd 32) w'):=by
 have q1:=h.n1;have q2:=h.m1;have q3:=h.c1;have HR:=Lib.hid h;have X:=Lib.hid af;clear h af;obtain⟨i0,ax,al,a1,ar⟩:=xp ZH;have bb:=Lib.hid ax;have aG:=Lib.hid al;have aB:=Lib.hid a1;have aJ:=Lib.hid ar;clear ax al a1 ar;obtain⟨NN,aw⟩:∃N:Array Value,Hid (N=(A.toList.take 16).toArray):=⟨_,rfl⟩;have ac:Hid (NN.size=16):=by show _=_;rw[aw.o];have:=ag.o;simp;omega
 have ap:Hid (∀j,j<NN.size->A[0+j]?=NN[j]?):=fun j hj=>by rw[ac.o]at hj;rw[aw.o,yL,<-zP,xB,zI,ze hj]
 go_enter func53,ntmps53
 go_wp2_with (refine pR (by kernel_rfl) 89 (.tmp 14) rfl w 0 rfl 93 A NN (0,0) _ (zH) ap.o lj rfl (by rw[ac.o];exact m9) ?_)
 have V:Hid (Below w w (w.alloc (.cells A 93))):=zB.alloc zL _;have aj:Hid ((w.alloc (.cells A 93)).heap.size=w.heap.size+1):=by show _=_;simp
 generalize w.alloc (.cells A 93)=S at *
 go_loopw [6,16] (fun o i wr=>∃(j:Nat) (E:List Nd),j<=16/\i=.int .i64 j/\Hid (wr.ownsRow (w.heap.size+1) 59 8 o (2*j) (uu E))/\Hid (tP (mm w o) wr E (sQ N nd (2*j)))/\Hid (Below S S wr)) (fun _ i _=>16-(intOf i).toNat)
 case atStart=>exact⟨0,[],ye _,rfl,yW _ _ _ _,tP.nil _ _,zB⟩
 case round=>
  obtain⟨j,E,hj,rfl,Q,HE,HB⟩:=hrel;by_cases I:j<16
  .have a3:(j:Int)<16:=(by omega);obtain⟨y,Hy⟩:∃y:Nat,Hid (nd j=(y:Int)):=⟨(nd j).toNat,by show _=_;have:=X.o.1 j I;omega⟩;have ad:y<k:=(by have:=X.o.1 j I;have:=Hy.o;omega);have ay:∀W:World,(Instr.index 89 (.agg NN) (.int .i64 (j:Int))).run prog W=.ok (.int .i64 (y:Int)) W:=fun W=>
    W9 _ _ 16 .i64 NN .i64 (j:Int) lj intT intS (by omega) (by omega) _ (by have L:=ap.o j (by rw[ac.o];exact I);rw[yy,<-L,yL,ah.o j I,Hy.o]) W
   have ao:=Lib.hid (HR.o.read wr (Below.step V.o HB.o) y ad);have Y:=Lib.hid (HR.o.len y ad);have aP:=Lib.hid (HR.o.byte y ad);go_wp2_with fail
   refine ao.o.mono ?_;rintro e w3 ⟨v3,rfl,aL⟩;obtain⟨g3,bh,R,rfl,B,az,ab,C⟩:=aL;rw[Y.o]at B ab ⊢;have aH:=Lib.hid az;have bd:=Lib.hid ab;have bw:=Lib.hid C;have aq:Hid (Below S S w3):=Below.step HB.o C;have aX:=Lib.hid (th Q.o C);have aK:=Lib.hid (HE.o.keep (yK.of_below C));have bo:=B.2;clear az ab C Q HE ao ay;go_wp2;go_loopw [6,27] (fun o i wq=>∃(a:Nat) (E:List Nd),a<=2/\i=.int .i64 a/\Hid (wq.ownsRow (w.heap.size+1) 59 8 o (2*j+a) (uu E))/\Hid (tP (mm w o) wq E (sQ N nd (2*j+a)))/\Hid (Below S S wq)/\Hid (wq.heap[g3]?=some (.cells R 5))) (fun _ i _=>2-(intOf i).toNat);case atStart=>exact⟨0,E,ye _,rfl,aX.o,aK.o,aq.o,aH.o⟩
   case round=>
    obtain⟨a,E2,ha,rfl,Q,HE,D,av⟩:=hrel;by_cases aS:a<2
    .have an:(a:Int)<2:=(by omega);have ak:Hid (nl N nd (2*j+a)=half (N y) a):=(by show _=_;unfold nl;rw[show (2*j+a) / 2=j by omega,show (2*j+a)%2=a by omega,Hy.o];rfl);have Z:Hid ((half (N y) a).length=32):=(by show _=_;unfold half;rw[zi,yx,Y.o];omega);have HG:Hid (o9 (half (N y) a)):=(by show _;rw[<-ak.o];exact X.o.2 (2*j+a) (by omega));have ba:Hid (∀x∈half (N y) a,0<=x/\x<=255):=fun x hx=>aP.o x (xY (xd hx));have aT:=Lib.hid (OO N nd (2*j+a));have i1:=zW (32*(a:Int));have i2:=zW ((a:Int)+1);have i3:=zW (32*((a:Int)+1));have a9:=Lib.hid (fun c=>NF (cap:=c) Y.o av.o bd.o a aS);go_wp2_with fail
     rw[show 32*(a+1)-32*a=32 by omega];refine (Mf _ (half (N y) a) wr (a9.o _) (by rw[Z.o];omega) ba.o ⟨_,_,by rw[Z.o],by rw[Z.o];omega⟩).mono ?_;rintro e F (⟨_,v5,rfl,hI,M⟩|⟨a7,_⟩);case inr=>exact yb HG.o a7
     obtain⟨H,G,ae⟩:=Nw hI.1 _ rfl;obtain⟨g,s,f,p,l,m,z,P,HX⟩:∃g s f p l m z P,Hid (pnOf (half (N y) a)=⟨g,s,f,p,l,m,z,P⟩):=⟨_,_,_,_,_,_,_,_,rfl⟩;have a0:=HX.o;unfold pnOf at a0;injection a0 with e0 e1 e2 e3 e4 e5 e6 e7;rw[e0,e1,e2,e3,e4,e5,e6];rw[e7]at hI ae;obtain⟨n,HN⟩:=zD P.length;rw[HN.o]at ae;subst ae;have HI:=Lib.hid hI;have K:=Lib.hid M;have aE:=Lib.hid (th Q.o M);have au:=Lib.hid (HE.o.keep (yK.of_below M));have aC:Hid (NdIs (mm w u6) F ⟨g,s,f,p,l,m,z,H,n,G⟩ (pnOf (half (N y) a))):=by
      rw[HX.o];exact⟨rfl,rfl,rfl,rfl,rfl,rfl,rfl,UX hI fun i _ hi=>by
       rcases hi with hi|hi
       .have L:=V.o.size;have h3:=D.o.size;omega
       .exact (Q.o.lt i hi).2⟩
     clear hI M e0 e1 e2 e3 e4 e5 e6 e7;obtain⟨nE,bc⟩:=zD E2.length;have aW:nE=2*j+a:=(by rw[<-bc.o,au.o.1,L0]);subst aW;have aA:Hid (w.heap.size+1<=F.heap.size):=zr (vM aj.o.symm) (zr D.o.size K.o.size);have J:Hid (Below F F ((F.alloc (.cells #[g,s,f,p,l,m,z,(H,n,G)] 59)).alloc (.cells #[g,s,f,p,l,m,z,(H,n,G)] 59))):=(zB.alloc zL _).alloc (by simp) _;have a4:=Lib.hid (th aE.o J.o);have a8:Hid (((F.alloc (.cells #[g,s,f,p,l,m,z,(H,n,G)] 59)).alloc (.cells #[g,s,f,p,l,m,z,(H,n,G)] 59)).heap[F.heap.size+1]?=some (.cells #[g,s,f,p,l,m,z,(H,n,G)] 59)):=jD _ _ _ (by simp);go_wp2_with (at_builtin;refine wpList_append_own_at _ rfl _ _ 97 rfl (w.heap.size+1) 59 i0 (.agg #[(),(),(),(),(),(),(),.slice none 0 0]) 8 80 ndsT bb.o aG.o aB.o aJ.o rfl (by decide) _ _ _ rfl a4.o ⟨F.heap.size+1,0,none⟩ 1 1 [.int .i64 g,.int .i64 s,.int .i64 f,.int .i64 p,.int .i64 l,.int .i64 m,.int .i64 z,.slice H n G] rfl rfl (xU (cs:=#[.int .i64 g,.int .i64 s,.int .i64 f,.int .i64 p,.int .i64 l,.int .i64 m,.int .i64 z,(H,n,G)]) (t:=59) (fr:=(0,0)) a8.o) (by simp[Value.oneCell']) (by unfold maxLen;omega) (by omega) (by have:=aA.o;simp;omega) ?_;intro v6 w6 U b _ O)
     have a6:Hid (∀i,i<F.heap.size->mm w v6 i->mm w u6 i):=fun i hi d=>by
      rcases d with d|d
      .exact zt d
      .rcases O with hl|hl
       .exact zu (hl▸d)
       .rw[hl]at d;injection d with d;have:F.heap.size<=i:=(by rw[<-d];simp;omega);omega
     have aR:Hid (yK (fun i=>mm w u6 i\/mm w v6 i) F w6):=((yK.of_below J.o).step (yK.grown b (fun q hq=>zt (zu hq))));have aN:Hid (tP (mm w v6) w6 (E2++[⟨g,s,f,p,l,m,z,H,n,G⟩]) (sQ N nd (2*j+(a+1)))):=(by have L:=(au.o.snoc aC.o).grow (G':=fun i=>mm w u6 i\/mm w v6 i) (fun i hi d=>d.elim id (a6.o i hi));have h2:=(L.keep aR.o).grow (G':=mm w v6) (fun i _ d=>zu d);show tP _ _ _ (sQ N nd (2*j+a+1));rw[aT.o,ak.o];exact h2);have aM:Hid (w6.ownsRow (w.heap.size+1) 59 8 v6 (2*j+(a+1)) (uu (E2++[⟨g,s,f,p,l,m,z,H,n,G⟩]))):=(by rw[Mv];exact U);have aF:Hid (Below S S w6):=xC (Below.step (Below.step D.o K.o) J.o) b (by have L:=D.o.size;have h2:=K.o.size;simp;omega) (fun q hq=>by rw[aj.o];exact (Q.o.lt q hq).1);have aQ:Hid (w6.heap[g3]?=some (.cells R 5)):=(by have L:=we J.o (we K.o av.o);exact (b.block g3 (xL L) (fun hc=>rW a4.o L (by decide) hc.symm)).trans L);clear U b O;go_roundw;case rel=>exact⟨a+1,_,by omega,by go_num,aM,aN,aF,aQ⟩
     case measure=>simp[intOf];omega
    .obtain rfl:a=2:=(by omega);have aI:Hid (wr.ownsRow (w.heap.size+1) 59 8 u6 (2*(j+1)) (uu E2)):=Q.o;have aZ:Hid (tP (mm w u6) wr E2 (sQ N nd (2*(j+1)))):=HE.o;have an:¬((2:Nat):Int)<2:=(by omega);go_wp2;go_roundw;case rel=>exact⟨j+1,E2,by omega,by go_num,aI,aZ,D⟩
     case measure=>simp[intOf];omega
  .obtain rfl:j=16:=(by omega);have a3:¬((16:Nat):Int)<16:=(by omega);go_wp2;go_ret2;exact⟨_,rfl,E,by rw[L0];exact Q.o,HE.o,Below.step V.o HB.o⟩
theorem Xm (f:Fo) (k j:Nat) (a:j<16):(encT f k)[j]?=some (.int .i64 (f.nd k j)):=by rw[fq f k j (by omega)];unfold uO;rw[ze a]
theorem YI (h:RdAt w r N k) (f:Fo) (t:Nat) (b:jh N (f.nd t) k):
 Calls prog 53 #[.iface r.T r.u,.agg (encT f t)] w
  (fun e w'=>∃v,e=.returned (.tuple #[v,()])/\kL w v (sQ N (f.nd t) 32) w'):=
 Si h (f.nd t) _ (oV f t) (Vw f t) (fun j a=>Xm f t j a) b
def sH (N:Nat->List Int):List Int:=N 1++(N 2++N 3)
def forN (N:Nat->List Int) (n:Nat):List Int:=((List.range n).map fun i=>N (1+i)).flatten
theorem P6 (N:Nat->List Int) (n:Nat):forN N (n+1)=forN N n++N (1+n):=by unfold forN;rw[vH,yB,List.flatten_append];simp
theorem Xg (N:Nat->List Int):forN N 3=sH N:=by unfold forN sH;simp[vH]
structure ji (N:Nat->List Int) (f:Fo) (k:Nat):Prop where
 eq:encF (foB (sH N))=encF f
 right:rV (foB (sH N))=0
 root:vN f 0=true
 nds:∀t i,t<4->i<16->vN f t=true->37<=f.nd t i/\f.nd t i<(k:Int)
theorem S9 (h:RdAt w r N k) (hk:16<=k) (f:Fo) (al:ji N f k) (A:Array Value) (HA:Hid (A=encF f)):
 Calls prog 52 #[.iface r.T r.u] w (fun e w'=>e=.returned (.tuple #[.agg A,()])/\Below w w w'):=by
 have q1:=h.n1;have q2:=h.m1;have q3:=h.c1;have q4:=h.n2;have q5:=h.m2;have q6:=h.c2;have Q:=Lib.hid h;have M:=Lib.hid al;clear h al;have s:Hid (A.size=192):=by rw[HA.o];exact uh f
 have ao:Hid (A.all (·.oneCell')=true):=by rw[HA.o];exact nw f
 have aB:Hid (∀(t:Nat) (W:World),t<4->Calls prog 100 #[.agg A,t] W fun e w'=>e=.returned (.bool (vN f t))/\Below W W w'):=fun t W ht=>by rw[HA.o];exact jy f t W ht
 obtain⟨z,aC⟩:=zA (encF tA);have HZ:Hid (∀w,(zeroValue 95).run prog w=.ok (.agg z) w):=by rw[aC.o];exact forZ
 have a9:Hid (z.size=192):=by rw[aC.o];exact uh _
 have aK:Hid (∀(v:Value) (W:World),vC W v (sH N)->j4 v (sH N).length->Calls prog 99 #[v] W fun e w'=>e=.returned (.tuple #[.agg A,()])/\Below W W w'):=fun v W hb aM=>by
  have hl:(sH N).length=192:=by unfold sH;rw[zl,zl,Q.o.len 1 (by omega),Q.o.len 2 (by omega),Q.o.len 3 (by omega)]
  have hu:U8s (sH N):=fun x K=>by
   unfold sH at K;rcases yv.1 K with K|K
   .exact Q.o.byte 1 (by omega) x K
   .rcases yv.1 K with K|K
    .exact Q.o.byte 2 (by omega) x K
    .exact Q.o.byte 3 (by omega) x K
  have hU:unpF (sH N)=(foB (sH N),0):=by unfold unpF;rw[ze ⟨hl,M.o.right⟩]
  have:=TS v (sH N) W hb hu aM (by omega);rw[hU]at this;rw[HA.o,<-M.o.eq];exact this
 obtain⟨i0,a5,au,a8,a2⟩:=xp jt;have bb:=Lib.hid a5;have aN:=Lib.hid au;have aI:=Lib.hid a8;have aR:=Lib.hid a2;clear a5 au a8 a2;go_enter func52,ntmps52;go_wp2_with (refine om rfl 95 rfl z HZ.o ?_)
 have ae:Hid (Below w w (w.alloc (.cells z 95))):=zB.alloc zL _;have aq:Hid ((w.alloc (.cells z 95)).heap.size=w.heap.size+1):=by show _=_;simp
 have aP:Hid ((w.alloc (.cells z 95)).heap[w.heap.size]?=some (.cells z 95)):=zH;generalize w.alloc (.cells z 95)=C at *
 go_loopw [4,13] (fun o i wr=>∃(j:Nat),j<=3/\i=.int .i64 j/\Hid (wr.ownsRow (w.heap.size+1) 5 1 o (64*j) (u8s (forN N j)))/\Hid (Below C C wr)) (fun _ i _=>3-(intOf i).toNat)
 case atStart=>exact⟨0,ye _,rfl,yW _ _ _ _,zB⟩
 case round=>
  obtain⟨j,hj,rfl,HO,HB⟩:=hrel;by_cases bl:j<3
  .have aD:(j:Int)<3:=(by omega);have i1:=zW (1+(j:Int));have L:=Lib.hid (Q.o.read wr (Below.step ae.o HB.o) (1+j) (by omega));have O:=Lib.hid (Q.o.len (1+j) (by omega));have aw:=Lib.hid (P6 N j);rw[show ((1+j:Nat):Int)=1+(j:Int) by omega]at L;obtain⟨D,HD⟩:=zD (N (1+j));rw[HD.o]at L O aw;go_wp2_with fail
   refine L.o.mono ?_;rintro e w3 ⟨v3,rfl,aT⟩;obtain⟨g3,V,bh,rfl,F,a6,ag,ad⟩:=aT;rw[O.o]at F ag ⊢;have aO:=Lib.hid (su.cell (_B:=w.heap.size+1) (_cap:=V) O.o a6 ag);have af:Hid (Below C C w3):=Below.step HB.o ad;have aA:=Lib.hid (th HO.o ad);have aS:Hid ((u8s D).length=64):=(by show _=_;rw[vO,O.o]);have aJ:=Lib.hid (oR D);have aG:Hid (w.heap.size+1<=w3.heap.size):=zr (vM aq.o.symm) af.o.size;clear a6 ag ad HO L F;go_wp2_with (at_builtin;refine yH _ rfl _ _ 23 rfl (w.heap.size+1) 5 i0 (.int .u8 0) 1 1 u8sT bb.o aN.o aI.o aR.o rfl (by decide) _ _ _ rfl aA.o ⟨g3,0,none⟩ 64 V (u8s D) rfl (by rw[aS.o]) aO.o aJ.o (by unfold maxLen;omega) (by omega) aG.o ?_;intro v5 w5 X I ap)
   have aL:Hid (w5.ownsRow (w.heap.size+1) 5 1 v5 (64*(j+1)) (u8s (forN N (j+1)))):=(by show _;rw[aw.o,qh,show 64*(j+1)=64*j+64 by omega];exact X);have aj:Hid (Below C C w5):=xC af.o I af.o.size (fun q hq=>by rw[aq.o];exact (aA.o.lt q hq).1);clear X I ap;go_wp2;go_roundw;case rel=>exact⟨j+1,by omega,by go_num,aL,aj⟩
   case measure=>simp[intOf];omega
  .obtain rfl:j=3:=(by omega);have aD:¬((3:Nat):Int)<3:=(by omega);have ay:(sH N).length=192:=(by have:=HO.o.1;rw[vO,Xg]at this;exact this);have aF:Hid (vC wr u4 (sH N)):=(by have:=xT.of_owns HO.o;rw[Xg,show 64*3=(sH N).length from ay.symm]at this;exact this);have aH:Hid (j4 u4 (sH N).length):=fun p l c hu=>by
    rcases HO.o.2 with⟨_,h0⟩|⟨g,bu,bk,hv,_,_,hc,_⟩
    .omega
    .rw[hv]at hu;injection hu with _ _ h3;omega
   clear ay;go_wp2_with fail
   refine (aK.o u4 wr aF.o aH.o).mono ?_;rintro e B ⟨rfl,az⟩;have ac:Hid (Below C C B):=Below.step HB.o az;have a7:Hid (B.heap[w.heap.size]?=some (.cells z 95)):=we ac.o aP.o;clear az;have a4:=M.o.root;have G:=Lib.hid (aB.o 0);rw[a4]at G;have an:w.heap.size≠B.heap.size:=(by have:=xL a7.o;omega);have ak:Hid (((B.alloc (.cells z 95)).setRow B A).heap[B.heap.size]?=some (.cells A 95)):=yi _ _ _ _ _ _ (zH);have a0:Hid (((B.alloc (.cells z 95)).setRow B A).heap[w.heap.size]?=some (.cells z 95)):=jF (tf a7.o _) _ _ an;have aa:Hid (Below C C ((B.alloc (.cells z 95)).setRow B A)):=Below.setRow (Below.step ac.o (zB.alloc zL _)) ac.o.size _;clear a4;go_wp2_with (first
    | (refine om rfl 95 rfl z HZ.o ?_)
    | (refine yD rfl 95 (.tmp 8) (.tmp 33) rfl B A rfl rfl 95 z (zH) (by rw[s.o];exact forI) (by rw[a9.o,s.o]) ao.o ?_)
    | (refine Ug (by kernel_rfl) 95 (.tmp 8) rfl B rfl 95 A (0,0) _ ak.o forT rfl (by rw[s.o];exact forI) ?_))
   generalize (B.alloc (.cells z 95)).setRow B A=w4 at *
   refine (G.o w4 (by omega)).mono ?_;rintro e w5 ⟨rfl,P⟩;have Z:=Lib.hid (we P ak.o);have av:=Lib.hid (we P a0.o);have aj:=Lib.hid (Below.step aa.o P);obtain⟨ga,bc⟩:=zD B.heap.size;rw[bc.o]at Z an ⊢;clear P G ak a0 aa;go_wp2;go_loopw [43] (fun i wr=>∃t:Nat,t<=4/\i=.int .i64 t/\Hid (wr.heap[w.heap.size]?=some (.cells z 95))/\Hid (wr.heap[ga]?=some (.cells A 95))/\Hid (Below C C wr)) (fun i _=>4-(intOf i).toNat);case atStart=>exact⟨0,by omega,rfl,av,Z,aj⟩
   case round=>
    obtain⟨t,ht,rfl,d,b,m⟩:=hrel;by_cases ai:t<4
    .have ar:(t:Int)<4:=(by omega);have bs:(0:Int)<=(t:Int):=(by omega);obtain⟨NN,ah⟩:=zA (encN f t);have aW:Hid (NN.size=16):=(by rw[ah.o];exact VJ _ _);have aQ:Hid (∀j,j<NN.size->A[t*48+j]?=NN[j]?):=(by rw[ah.o,HA.o];exact Ky f t ai);go_wp2_with (refine pR (by kernel_rfl) 89 (.tmp 48) rfl ga (t*48) rfl 95 A NN (0,0) _ b.o aQ.o lj rfl (by rw[aW.o];exact m9) ?_)
     go_loopw [50] (fun i wr=>∃a:Nat,a<=16/\i=.int .i64 a/\Hid (wr.heap[w.heap.size]?=some (.cells z 95))/\Hid (wr.heap[ga]?=some (.cells A 95))/\Hid (Below C C wr)) (fun i _=>16-(intOf i).toNat)
     case atStart=>exact⟨0,by omega,rfl,d,b,m⟩
     case round=>
      clear d b m;obtain⟨a,ha,rfl,d,b,m⟩:=hrel;by_cases ab:a<16
      .have a1:(a:Int)<16:=(by omega);obtain⟨y,Hy⟩:=zD (f.nd t a);have Y:∀W:World,(Instr.index 89 (.agg NN) (.int .i64 (a:Int))).run prog W=.ok (.int .i64 y) W:=fun W=>
        W9 _ _ 16 .i64 NN .i64 (a:Int) lj intT intS (by omega) (by omega) _ (by rw[yy,ah.o,Vy f t a ab,Hy.o.symm];unfold uO;rw[ze ab]) W
       have E:=Lib.hid (fun W=>aB.o t W ai);cases J:vN f t with
       | true=>
        rw[J]at E;have aY:=M.o.nds t a ai ab J;rw[Hy.o]at aY;have b1:decide (y<37)=false:=zK (by omega);have b2:decide ((k:Int)<=y)=false:=zK (by omega);have b3:decide (y >= (k:Int))=false:=zK (by omega);clear J;go_wp2_with (refine yQ rfl 95 (.tmp 8) rfl ga rfl 95 A (0,0) _ b.o forT rfl (by rw[s.o];exact forI) ?_)
        refine (E.o wr).mono ?_;rintro e w6 ⟨rfl,n⟩;have R:=Lib.hid (we n d.o);have U:=Lib.hid (we n b.o);have H:=Lib.hid (Below.step m.o n);have a3:=Lib.hid (Q.o.size w6 (Below.step ae.o H.o));clear n E d b m Y;go_wp2_with fail
        refine a3.o.mono ?_;rintro e w7 ⟨rfl,S⟩;have aV:=Lib.hid (we S R.o);have ba:=Lib.hid (we S U.o);have aU:=Lib.hid (Below.step H.o S);clear S R U H a3;go_wp2;go_roundw;case rel=>exact⟨a+1,by omega,by go_num,aV,ba,aU⟩
        case measure=>simp[intOf];omega
       | false=>
        rw[J]at E;clear J;go_wp2_with (refine yQ rfl 95 (.tmp 8) rfl ga rfl 95 A (0,0) _ b.o forT rfl (by rw[s.o];exact forI) ?_)
        refine (E.o wr).mono ?_;rintro e w6 ⟨rfl,n⟩;have R:=Lib.hid (we n d.o);have U:=Lib.hid (we n b.o);have H:=Lib.hid (Below.step m.o n);clear n E d b m Y;go_wp2;go_roundw;case rel=>exact⟨a+1,by omega,by go_num,R,U,H⟩
        case measure=>simp[intOf];omega
      .obtain rfl:a=16:=(by omega);have a1:¬((16:Nat):Int)<16:=(by omega);go_wp2;go_roundw;case rel=>exact⟨t+1,by omega,by go_num,d,b,m⟩
       case measure=>simp[intOf];omega
    .obtain rfl:t=4:=(by omega);have ar:¬((4:Nat):Int)<4:=(by omega);go_wp2_with (first
      | (refine yQ rfl 95 (.tmp 8) rfl ga rfl 95 A (0,0) _ b.o forT rfl (by rw[s.o];exact forI) ?_)
      | (refine yD rfl 95 (.tmp 2) (.tmp 69) rfl w A rfl rfl 95 z d.o (by rw[s.o];exact forI) (by rw[a9.o,s.o]) ao.o ?_))
     refine yS (Zx rfl _ _ w 95 A (0,0) _ (.int .i64 0) rfl rfl (yi _ _ _ _ _ _ d.o) forT rfl (by rw[s.o];exact forI)) rfl ⟨rfl,?_⟩;exact Below.setRow (Below.step ae.o m.o) zL _
theorem Y6 (h:RdAt w r N k) (b:16<=k) (f:Fo) (a:ji N f k):
 Calls prog 52 #[.iface r.T r.u] w (fun e w'=>e=.returned (.tuple #[.agg (encF f),()])/\Below w w w'):=S9 h b f a _ rfl
theorem Ya (w:World) (n k:Nat) (K:37<=n) (L:n<k) (H:k<=256) (D y I B:Nat) (S A:Array Value) (s:Nat->Bool) (C:Hid (S=enc s)) (z:Hid (A=enc (ins s n))) (E:s n=false)
 (J:w.cell? (D,0)=some (.int .i64 (k:Int))) (G:Hid (w.heap[y]?=some (.cells S 91))):
 Calls prog 185 #[n,(D,()),(y,()),(I,()),(B,())] w
  (fun e w'=>e=.returned (.tuple #[])/\yK (fun i=>i=y) w w'/\w'.heap[y]?=some (.cells A 91)):=by
 have c:Hid (S.size=32):=by show _=_;rw[C.o];exact tF _
 have a:Hid (A.size=32):=by show _=_;rw[z.o];exact tF _
 have l:Hid (A.all (·.oneCell')=true):=by show _=_;rw[z.o];exact lO _
 have j:Hid (∀W:World,Calls prog 161 #[.agg S,n] W fun e w'=>e=.returned (.bool false)/\Below W W w'):=fun W=>by have:=io s (n:Int) W (by omega) (by omega);rw[yy,E]at this;rw[C.o];exact this
 have b:Hid (∀W:World,Calls prog 89 #[.agg S,n] W fun e w'=>e=.returned (.agg A)/\Below W W w'):=fun W=>by have:=iz s (n:Int) W (by omega) (by omega);rw[yy]at this;rw[C.o,z.o];exact this
 have u:decide ((n:Int)<37)=false:=zK (by omega);have v:decide ((k:Int)<=(n:Int))=false:=zK (by omega);have t:¬((n:Int)<37):=by omega
 have r:¬((k:Int)<=(n:Int)):=by omega
 clear E;go_enter func185,ntmps185;go_wp2_with (refine Ug (by kernel_rfl) 91 (.tmp 2) rfl y rfl 91 S (0,0) _ G.o setT rfl (by rw[c.o];exact setI) ?_)
 refine (j.o w).mono ?_;rintro e q ⟨rfl,f⟩;have g:=Lib.hid (we f G.o);have m:=Lib.hid f;clear f J;go_wp2_with (refine yQ rfl 91 (.tmp 2) rfl y rfl 91 S (0,0) _ g.o setT rfl (by rw[c.o];exact setI) ?_)
 refine (b.o q).mono ?_;rintro e x ⟨rfl,d⟩;have h:=Lib.hid (we d g.o);have p:=Lib.hid (Below.step m.o d);clear d;go_wp2_with (refine yD rfl 91 (.tmp 2) (.tmp 21) rfl y A rfl rfl 91 S h.o (by rw[a.o];exact setI) (by rw[a.o,c.o]) l.o ?_)
 go_end0
 exact⟨rfl,(yK.of_below p.o).step (yK.setRow (F:=fun i=>i=y) rfl _),yi _ _ _ _ _ _ h.o⟩
def rP (l:List Nat):Nat->Bool:=l.foldl ins emp
theorem Ic (l:List Nat) (n:Nat):rP (l++[n])=ins (rP l) n:=by unfold rP;rw[xF];rfl
theorem P7 (l:List Nat):∀(s:Nat->Bool) (m:Nat),(l.foldl ins s) m=(s m||decide (m∈l)):=by
 induction l with
 | nil=>intro s m;simp
 | cons n l a=>
  intro s m;rw[wS,a];unfold ins;by_cases h:m=n<;>simp[h]
theorem Nz (l:List Nat) (m:Nat):rP l m=decide (m∈l):=by unfold rP;rw[P7];simp[emp]
def qw (P:List Int):List Nat:=(nzF P).map Int.toNat
def pH (nd:Nat->Int) (n:Nat):List Nat:=(List.range n).map fun i=>(nd i).toNat
def sR (L:List Pn):List Nat:=L.flatMap fun x=>qw x.P
structure j5 (nd:Nat->Int) (L:List Pn) (hs:Nat->Bool) (k:Nat):Prop where
 nodup:(pH nd 16++sR L).Nodup
 nds:∀i,i<16->37<=nd i/\nd i<(k:Int)
 pts:∀x∈L,∀p∈x.P,p=0\/(37<=p/\p<(k:Int))
 has:∀m,m<256->rP (pH nd 16++sR L) m=hs m
 few:∀x∈L,x.P.length<=8
theorem Yg {x:Nat} {R:List Nat} (h:(A++x::R).Nodup):rP A x=false:=by rw[Nz,zJ];intro a;exact (wZ.1 h).2.2 x a x xx rfl
theorem SW (x:Int) (l:List Int):nzF (x::l)=if x=0 then nzF l else x::nzF l:=by unfold nzF;rw[vy];by_cases h:x=0<;>simp[h]
theorem SV (l:List Int) (x:Int):nzF (l++[x])=if x=0 then nzF l else nzF l++[x]:=by rw[Wo,SW];by_cases h:x=0<;>simp[h,nzF]
theorem setG: prog.eqGuardType prog.depth 91=false:=by kernel_rfl
structure pK (w wr:World) (k:Nat) (A S:Array Value):Prop where
 c4:wr.heap[w.heap.size]?=some (.cells #[k] 3)
 c5:wr.heap[w.heap.size+1]?=some (.cells A 93)
 c9:wr.heap[w.heap.size+1+1+1]?=some (.cells S 91)
 c10:wr.heap[w.heap.size+1+1+1+1]?=some (.cells #[.bool true] 4)
 below:Below w w wr
theorem pK.step {A:Array Value} (h:pK w wr k A S) (a:Below wr wr w2):pK w w2 k A S:=
 ⟨we a h.c4,we a h.c5,we a h.c9,we a h.c10,Below.step h.below a⟩
theorem pK.put {A S2:Array Value} (h:pK w wr k A S) (b:yK (fun i=>i=w.heap.size+1+1+1) wr w2) (c:w2.heap[w.heap.size+1+1+1]?=some (.cells S2 91)):pK w w2 k A S2:=
 ⟨(
  b.block _ (xL h.c4) (by omega)).trans h.c4,(b.block _ (xL h.c5) (by omega)).trans h.c5,c,(b.block _ (xL h.c10) (by omega)).trans h.c10,
  ⟨b.os.trans h.below.os,b.tape.trans h.below.tape,b.output.trans h.below.output,zr h.below.size b.size,fun i a=>(b.block i (zm a h.below.size) (by omega)).trans (h.below.block i a)⟩⟩
theorem Nc (a:Nat->Int) (j n:Nat) (h:j<=n):(pH a n).take j=pH a j:=by unfold pH;rw[<-List.map_take,List.take_range,vX h]
theorem Jm (a:Nat->Int) (j:Nat):pH a (j+1)=pH a j++[(a j).toNat]:=by unfold pH;rw[vH,yB];rfl
theorem Nk (h:(A++B).Nodup):(A.take j).Nodup:=((wZ.1 h).1).sublist (List.take_sublist _ _)
theorem SP {nd:Nat->Int} (h:(pH nd 16++B).Nodup) (b:j<16):rP (pH nd j) (nd j).toNat=false:=by have a:=Nk (j:=j+1) h;rw[Nc _ _ _ (by omega),Jm]at a;exact Yg (R:=[]) a
theorem J2 (P:List Int) (a:Nat) (h:a<P.length):qw (P.take (a+1))=qw (P.take a)++(if P[a]=0 then [] else [P[a].toNat]):=by unfold qw;rw[sE,zf h,Option.toList_some,SV];split<;>simp
theorem Jn (L:List Pn) (i:Nat) (h:i<L.length):sR (L.take (i+1))=sR (L.take i)++qw L[i].P:=by unfold sR;rw[sE,zf h,Option.toList_some,vJ];simp
theorem Pi {L:List Pn} {i a:Nat} (h:(A++sR L).Nodup) (d:i<L.length) (e:a<L[i].P.length) (f:L[i].P[a]≠0):rP (A++sR (L.take i)++qw (L[i].P.take a)) L[i].P[a].toNat=false:=by
 have c:qw L[i].P=qw (L[i].P.take (a+1))++qw (L[i].P.drop (a+1)):=by unfold qw;rw[<-yB,<-Wo,xO]
 have b:sR L=sR (L.take (i+1))++sR (L.drop (i+1)):=by unfold sR;rw[<-vJ,xO]
 rw[b,Jn L i d,c,J2 _ _ e,zb f]at h;refine Yg (R:=qw (L[i].P.drop (a+1))++sR (L.drop (i+1))) ?_;simpa[zU]using h
theorem Nf (
 w:World) (nd:Nat->Int) (hs:Nat->Bool) (k bm:Nat) (hk:k<=256) (A:Array Value) (a0:Hid (A.size=48)) (_HA1:Hid (A.all (·.oneCell')=true)) (a1:Hid (∀j,j<16->A[j]?=some (.int .i64 (nd j)))) (a4:Hid (∀j,j<32->A[16+j]?=(enc hs)[j]?))
 (v:Value) (E:List Nd) (L:List Pn) (G:Nat->Prop) (hv:xT w v 8 E.length (uu E)) (hE:tP G w E L) (hl:L.length<=1000) (ab:j5 nd L hs k):
 Calls prog 147 #[k,.agg A,v,.map (some bm)] w
  (fun e w'=>e=.returned (.bool true)/\Below w w w'):=by
 have l:=Lib.hid ab;have HE:=Lib.hid hE;obtain⟨R,H⟩:=zD E.length;obtain⟨p,cp,af,HP⟩:=jC hv;rw[H.o]at af HP;subst af;have bq:R<=1000:=by rw[<-H.o,hE.1];exact hl
 clear ab hE hv hl;obtain⟨Z,aq⟩:∃N:Array Value,Hid (N=(A.toList.take 16).toArray):=⟨_,rfl⟩;have V:Hid (Z.size=16):=by show _=_;rw[aq.o];have:=a0.o;simp;omega
 have aj:Hid (∀j,j<Z.size->A[0+j]?=Z[j]?):=fun j M=>by rw[V.o]at M;rw[aq.o,yL,<-zP,xB,zI,ze M]
 obtain⟨Z0,ax⟩:=zA (enc emp);have HZ:Hid (∀w,(zeroValue 91).run prog w=.ok (.agg Z0) w):=by rw[ax.o];exact setZ
 have a7:Hid (Z0=enc (rP (pH nd 0))):=by show _=_;rw[ax.o];rfl
 have H0:Hid (pK w (((((w.alloc (.cells #[k] 3)).alloc (.cells A 93)).alloc (.cells #[.map (some bm)] 148)).alloc (.cells Z0 91)).alloc (.cells #[.bool true] 4)) k A Z0):=
  ⟨tf (tf (tf (tf (zH) _) _) _) _,tf (tf (tf (jD _ _ _ (by simp)) _) _) _,tf (jD _ _ _ (by simp)) _,jD _ _ _ (by simp),
   ((((zB.alloc zL _).alloc (by simp) _).alloc (by simp;omega) _).alloc (by simp;omega) _).alloc (by simp;omega) _⟩
 go_enter func147,ntmps147
 go_wp2_with (first
  | (refine om rfl 91 rfl Z0 HZ.o ?_)
  | (refine pR (by kernel_rfl) 89 (.tmp 19) rfl (w.heap.size+1) 0 rfl 93 A Z (0,0) _ H0.o.c5 aj.o lj rfl (by rw[V.o];exact m9) ?_))
 generalize (((((w.alloc (.cells #[k] 3)).alloc (.cells A 93)).alloc (.cells #[.map (some bm)] 148)).alloc (.cells Z0 91)).alloc (.cells #[.bool true] 4))=w0 at *
 go_loopw [21] (fun i wr=>∃j:Nat,j<=16/\i=.int .i64 j/\Hid (pK w wr k A (enc (rP (pH nd j))))) (fun i _=>16-(intOf i).toNat)
 case atStart=>exact⟨0,by omega,rfl,by rw[<-a7.o];exact H0⟩
 case round=>
  obtain⟨j,M,rfl,c⟩:=hrel;by_cases D:j<16
  .have z:(j:Int)<16:=(by omega);have J:=l.o.nds j D;obtain⟨y,Hy⟩:∃y:Nat,Hid (nd j=(y:Int)):=⟨(nd j).toNat,by show _=_;omega⟩;have au:∀W:World,(Instr.index 89 (.agg Z) (.int .i64 (j:Int))).run prog W=.ok (.int .i64 (y:Int)) W:=fun W=>
    W9 _ _ 16 .i64 Z .i64 (j:Int) lj intT intS (by omega) (by omega) _ (by have h1:=aj.o j (by rw[V.o];exact D);rw[yy,<-h1,yL,a1.o j D,Hy.o]) W
   have b:=SP l.o.nodup D;have h:=Lib.hid (Jm nd j);rw[Hy.o]at b J h;rw[yy]at b h;have S:wr.cell? (w.heap.size,0)=some (.int .i64 (k:Int)):=zC c.o.c4;have d:=Lib.hid (Ya wr y k (by omega) (by omega) hk w.heap.size (w.heap.size+1+1+1) (w.heap.size+1+1) (w.heap.size+1+1+1+1) _ _ (rP (pH nd j)) rfl rfl b S c.o.c9);clear S b;go_wp2_with fail
   refine d.o.mono ?_;rintro e w3 ⟨rfl,s,t⟩;have f:Hid (pK w w3 k A (enc (rP (pH nd (j+1))))):=(by rw[h.o,Ic];exact c.o.put s t);clear s t d au;go_wp2;go_roundw;case rel=>exact⟨j+1,by omega,by go_num,f⟩
   case measure=>simp[intOf];omega
  .obtain rfl:j=16:=(by omega);have z:¬((16:Nat):Int)<16:=(by omega);obtain⟨T,HT⟩:=zD (pH nd 16);have ad:=Lib.hid l.o.nodup;rw[HT.o]at c ad;have aw:Hid (pK w wr k A (enc (rP (T++sR (L.take 0))))):=(by show _;rw[show T++sR (L.take 0)=T by simp[sR]];exact c.o);have an:Hid (L.length=R):=(by show _=_;rw[<-H.o];exact HE.o.1.symm);go_wp2;go_loopw [30] (fun i wr=>∃j:Nat,j<=R/\i=.int .i64 j/\Hid (pK w wr k A (enc (rP (T++sR (L.take j)))))) (fun i _=>R-(intOf i).toNat);case atStart=>exact⟨0,by omega,rfl,aw⟩
   case round=>
    clear c aw;obtain⟨i,hi,rfl,c⟩:=hrel;by_cases ah:i<R
    .obtain⟨g,o,rfl,F,hc⟩:=HP.o (by omega);have al:i<E.length:=(by rw[H.o];exact ah);have u:i<L.length:=(by rw[an.o];exact ah);obtain⟨d0,d1,d2,d3,d4,d5,d6,d7⟩:=mG hc i al;have Y:=Lib.hid ((HE.o.2 i al u));have ac:=Lib.hid (l.o.few _ (zz u));have ak:=Lib.hid (l.o.pts _ (zz u));have h:=Lib.hid (Jn L i u);have ae:=Lib.hid (fun a ha=>Pi (a:=a) ad.o u ha);generalize L[i]=X at Y ac ak h ae;generalize E[i]=x at d0 d1 d2 d3 d4 d5 d6 d7 Y;obtain⟨xk,xm,xu,xg,xs,xl,ao,xq,C,xc⟩:=x;have B:=c.o.below;have c0:=(B.cell (p:=⟨g,o+i*8,none⟩) F).trans d0;have c1:=(B.cell (p:=⟨g,o+i*8+1,none⟩) F).trans d1;have c2:=(B.cell (p:=⟨g,o+i*8+2,none⟩) F).trans d2;have c3:=(B.cell (p:=⟨g,o+i*8+3,none⟩) F).trans d3;have S:=(B.cell (p:=⟨g,o+i*8+4,none⟩) F).trans d4;have c5:=(B.cell (p:=⟨g,o+i*8+5,none⟩) F).trans d5;have c6:=(B.cell (p:=⟨g,o+i*8+6,none⟩) F).trans d6;have c7:=(B.cell (p:=⟨g,o+i*8+7,none⟩) F).trans d7;dsimp only at c0 c1 c2 c3 S c5 c6 c7;have z:(i:Int)<(R:Int):=(by omega);have bd:g<wr.heap.size:=zm F B.size;have ba:¬g=wr.heap.size:=(by omega);have aC:Hid (vQ w (xq,C,xc) X.P):=Y.o.2.2.2.2.2.2.2.now;obtain⟨n,HN⟩:=zD X.P.length;obtain⟨pp,pc,aH,ar⟩:=Zq aC.o;injection aH with e1 e2 e3;subst e1 e3;rw[HN.o]at e2 ar;subst e2;have bj:C<=8:=(by rw[<-HN.o];exact ac.o);clear hc d0 d1 d2 d3 d4 d5 d6 d7 B;have am:Hid (pK w (wr.alloc (.cells #[xk,xm,xu,xg,xs,xl,ao,(xq,C,xc)] 59)) k A (enc (rP (T++sR (L.take i)++qw (X.P.take 0))))):=(by show _;rw[show T++sR (L.take i)++qw (X.P.take 0)=T++sR (L.take i) by simp[qw,nzF]];exact c.o.step (zB.alloc zL _));go_wp2;generalize wr.alloc (.cells #[xk,xm,xu,xg,xs,xl,ao,(xq,C,xc)] 59)=wn at *
     go_loopw [37] (fun i0 wr=>∃a:Nat,a<=C/\i0=.int .i64 a/\Hid (pK w wr k A (enc (rP (T++sR (L.take i)++qw (X.P.take a)))))) (fun i0 _=>C-(intOf i0).toNat)
     case atStart=>exact⟨0,by omega,rfl,am⟩
     case round=>
      clear c am;obtain⟨a,ha,rfl,c⟩:=hrel;by_cases aI:a<C
      .have r:a<X.P.length:=(by rw[HN.o];exact aI);obtain⟨gp,op,rfl,a2⟩:=ar.o (by omega);have cj:=a2 a _ (mt X.P a r);have ap:=zG cj;have cj:=(c.o.below.cell (p:=⟨gp,op+a,none⟩) ap).trans cj;have O:=Lib.hid (J2 X.P a r);have U:=ak.o _ (zz r);have I:=ae.o a r;obtain⟨x,Hx⟩:=zD (X.P[a]' r);rw[Hx.o]at cj O U I;have ag:(a:Int)<(C:Int):=(by omega);by_cases q:x=0
       .subst q;have f:Hid (pK w wr k A (enc (rP (T++sR (L.take i)++qw (X.P.take (a+1)))))):=(by rw[O.o,ze rfl,xn];exact c.o);clear I U;go_wp2;go_roundw;case rel=>exact⟨a+1,by omega,by go_num,f⟩
        case measure=>simp[intOf];omega
       .have aJ:(x != 0)=true:=(by simpa using q);have b:=I q;obtain⟨y,Hy⟩:∃y:Nat,Hid (x=(y:Int)):=⟨x.toNat,by show _=_;omega⟩;have J:37<=y/\y<k:=(by have:=Hy.o;omega);have ai:Hid (qw (X.P.take (a+1))=qw (X.P.take a)++[y]):=(by show _=_;rw[O.o,zb q,Hy.o];rfl);rw[Hy.o]at b cj aJ;rw[yy]at b;have S:wr.cell? (w.heap.size,0)=some (.int .i64 (k:Int)):=zC c.o.c4;have d:=Lib.hid (Ya wr y k J.1 J.2 hk w (w.heap.size+1+1+1) (w.heap.size+1+1) (w.heap.size+1+1+1+1) _ _ (rP (T++sR (L.take i)++qw (X.P.take a))) rfl rfl b S c.o.c9);clear I U S b q;go_wp2_with fail
        refine d.o.mono ?_;rintro e w3 ⟨rfl,s,t⟩;have f:Hid (pK w w3 k A (enc (rP (T++sR (L.take i)++qw (X.P.take (a+1)))))):=(by rw[ai.o,<-zU,Ic];exact c.o.put s t);clear s t d;go_wp2;go_roundw;case rel=>exact⟨a+1,by omega,by go_num,f⟩
        case measure=>simp[intOf];omega
      .obtain rfl:a=C:=(by omega);have ag:¬(a:Int)<(a:Int):=(by omega);have f:Hid (pK w wr k A (enc (rP (T++sR (L.take (i+1)))))):=(by rw[h.o,<-zU];have:=c.o;rw[<-HN.o,xN]at this;exact this);go_wp2;go_roundw;case rel=>exact⟨i+1,by omega,by go_num,f⟩
       case measure=>simp[intOf];omega
    .obtain rfl:i=R:=(by omega);have z:¬(i:Int)<(i:Int):=(by omega);obtain⟨Q,HQ⟩:=zA (enc hs);have a3:Hid (∀j,j<Q.size->A[16+j]?=Q[j]?):=fun j M=>(by rw[HQ.o]at M ⊢;rw[tF]at M;exact a4.o j M);have ay:Hid (Q.size=32):=(by show _=_;rw[HQ.o];exact tF _);have K:Hid (pK w wr k A Q):=(by have:=c.o;rw[<-an.o,xN]at this;have e:enc (rP (T++sR L))=Q:=(by rw[HQ.o,<-HT.o];exact Kn fun m hm=>l.o.has m hm);rw[e]at this;exact this);have aG:Hid (∀W:World,(Op.equalIn 10000 91 (.agg Q) (.agg Q)).run prog W=.ok true W):=fun W=>(by rw[HQ.o];exact M8 hs W);have aZ:wr.cell? (w.heap.size+1+1+1+1,0)=some (.bool true):=zC K.o.c10;go_wp2_with (first
      | (refine yQ rfl 91 (.tmp 9) rfl (w.heap.size+1+1+1) rfl 91 Q (0,0) _ K.o.c9 setT rfl (by rw[ay.o];exact setI) ?_)
      | (refine pR (by kernel_rfl) 91 (.tmp 49) rfl (w.heap.size+1) 16 rfl 93 A Q (0,0) _ K.o.c5 a3.o setT rfl (by rw[ay.o];exact setI) ?_)
      | (refine MX (by kernel_rfl) (.bool false) (Ml 91 91 (.tmp 48) (.tmp 50) rfl Q Q rfl rfl true aG.o setG) ?_))
     go_ret;exact⟨rfl,K.o.below⟩
theorem RX (f:Fo) (k j:Nat) (a:j<32):(encT f k)[16+j]?=(enc (f.hs k))[j]? :=by rw[fq f k (16+j) (by omega),pQ _ j a];unfold uO;rw[zb (by omega),show 16+j-16=j by omega]
theorem Ng (w:World) (f:Fo) (t k c:Nat) (d:k<=256) (v:Value) (E:List Nd) (L:List Pn) (G:Nat->Prop) (g:xT w v 8 E.length (uu E)) (h:tP G w E L) (i:L.length<=1000) (b:j5 (f.nd t) L (f.hs t) k):
 Calls prog 147 #[k,.agg (encT f t),v,.map (some c)] w
  (fun e w'=>e=.returned (.bool true)/\Below w w w'):=
 Nf w (f.nd t) (f.hs t) k c d _ (oV f t) (Vw f t) (fun j a=>Xm f t j a) (fun j a=>RX f t j a) v E L G g h i b
theorem pw: prog.underlying 148=some (.map 3 4):=by kernel_rfl
theorem la: ∀w,(zeroValue 4).run prog w=.ok (.bool false) w:=(uW (P:=prog) (t:=4) (v:=.bool false) (n:=1) (by kernel_rfl)).1
structure Xw (L:List Pn) (X:List En):Prop where
 len:L.length=32
 kd:∀i (h:i<L.length),(L[i].k=2↔i=0)
 ino:∀x∈X,1<x.2/\x.2<=32
 few:X.length<=32
theorem TN (
 w:World) (v:Value) (E:List Nd) (L:List Pn) (G:Nat->Prop) (hv:xT w v 8 E.length (uu E)) (hE:tP G w E L) (X:List En) (ae:Xw L X) (ge ce bm:Nat) (xv:Value) (af:w.cell? (ge,0)=some xv) (hX:rB w xv X):
 Calls prog 149 #[v,.slice (some ⟨ge,0,none⟩) 32 ce,.map (some bm)] w
  (fun e w'=>e=.returned (.tuple #[])/\Below w w w'):=by
 have f:=Lib.hid ae;have HE:=Lib.hid hE;have W:E.length=32:=by rw[hE.1];exact ae.len
 obtain⟨p,cp,ad,HP⟩:=jC hv;rw[W]at ad HP;subst ad;obtain⟨g,o,rfl,d,hc⟩:=HP.o (by omega);have HC:=Lib.hid hc;have al:=Lib.hid W;clear ae hE hv hc W HP;obtain⟨N,HN⟩:=zA X.length;obtain⟨px,cx,rfl,ao⟩:=fD hX N HN.o;have a5:=Lib.hid ao;have aM:N<=32:=by rw[HN.o];exact f.o.few
 have aj:=zG af;have aB:=Lib.hid af;clear ao hX af;have aV:=@run_makeMap prog;obtain⟨V,aE,ab,am⟩:=(MapL.made (P:=prog) (K:=3) w).store intT pw (by simp) (k:=1) (by unfold InZ;omega) (.bool true);have an:Hid (Below w w V):=xC (zB.alloc zL _) am.grown (by simp) (fun q hq=>by injection hq with hq;omega);have aw:=Lib.hid ab;clear ab am;go_enter func149,ntmps149;go_wp2;have ak:Hid (Below w w (V.alloc (.cells #[(1:Int)] 3))):=an.o.alloc an.o.size _;have ap:Hid (MapL prog 3 (V.alloc (.cells #[(1:Int)] 3)) w.heap.size [(1,.bool true)]):=aw.o.of_block (vj _ _ _ aw.o.lt);have S:Hid ((V.alloc (.cells #[(1:Int)] 3)).heap[V.heap.size]?=some (.cells #[(1:Int)] 3)):=zH;obtain⟨gt,aA⟩:=zD V.heap.size;rw[aA.o]at S ⊢;generalize V.alloc (.cells #[(1:Int)] 3)=w2 at *
 go_loopw [7] (fun t wr=>((t=.slice (some ⟨gt,0,none⟩) 1 1)\/(∃a c,t=.slice a 0 c))/\Hid (Below w w wr)/\Hid (MapL prog 3 wr w.heap.size [(1,.bool true)])/\Hid (wr.heap[gt]?=some (.cells #[(1:Int)] 3))) (fun t _=>lenV t)
 case atStart=>exact⟨zt rfl,ak,ap,S⟩
 case round=>
  clear ak ap S aE;obtain⟨aC,b,l,U⟩:=hrel;rcases aC with rfl|⟨a0,c0,rfl⟩
  .have t0:wr.cell? (gt,0)=some (.int .i64 1):=zC U.o;have x0:=(b.o.cell (p:=⟨ge,0,none⟩) aj).trans aB.o;go_wp2;go_loopw [7,31] (fun t i wr=>(∃a c,t=.slice a 0 c)/\∃j:Nat,j<=N/\i=.int .i64 j/\Hid (Below w w wr)/\Hid (MapL prog 3 wr w.heap.size [(1,.bool true)])/\Hid (wr.heap[gt]?=some (.cells #[(1:Int)] 3))) (fun _ i _=>N-(intOf i).toNat);case atStart=>exact⟨⟨_,_,rfl⟩,0,by omega,rfl,b,l,U⟩
   case round=>
    clear b l U t0 x0;obtain⟨⟨a1,c1,rfl⟩,j,hj,rfl,b,l,U⟩:=hrel;by_cases ag:j<N
    .have ar:j<X.length:=(by rw[<-HN.o];exact ag);obtain⟨gx,ox,rfl,R,aa⟩:=a5.o (by omega);obtain⟨d0,d1⟩:=aa j ar;have d0:=(b.o.cell (p:=⟨gx,ox+j*2,none⟩) R).trans d0;have d1:=(b.o.cell (p:=⟨gx,ox+(j*2+1),none⟩) R).trans d1;have T:=f.o.ino _ (zz ar);generalize X[j]=x at d0 d1 T;obtain⟨xs,xi⟩:=x;dsimp only at d0 d1 T;obtain⟨n,Hn⟩:∃n:Nat,Hid (xi=(n:Int)+1):=⟨(xi-1).toNat,by show _=_;omega⟩;have aH:1<=n/\n<32:=(by have:=Hn.o;omega);rw[Hn.o]at d1;have i1:IntKind.i64.wrap ((n:Int)+1-1)=(n:Int):=(by rw[zQ _ (by omega)];omega);have s:n<E.length:=(by rw[al.o];omega);have u:n<L.length:=(by rw[f.o.len];omega);obtain⟨A,B,H,J,I,F,D,C⟩:=mG HC.o n s;have O:E[n].k≠2:=(by rw[(HE.o.2 n s u).1];intro hc;have:=(f.o.kd n u).1 hc;omega);generalize E[n]=y at A B H J I F D C O;obtain⟨Q,ym,yu,yg,ys,Z,r,yq,yn,yc⟩:=y;have A:=(b.o.cell (p:=⟨g,o+n*8,none⟩) d).trans A;have B:=(b.o.cell (p:=⟨g,o+n*8+1,none⟩) d).trans B;have H:=(b.o.cell (p:=⟨g,o+n*8+2,none⟩) d).trans H;have J:=(b.o.cell (p:=⟨g,o+n*8+3,none⟩) d).trans J;have I:=(b.o.cell (p:=⟨g,o+n*8+4,none⟩) d).trans I;have F:=(b.o.cell (p:=⟨g,o+n*8+5,none⟩) d).trans F;have D:=(b.o.cell (p:=⟨g,o+n*8+6,none⟩) d).trans D;have C:=(b.o.cell (p:=⟨g,o+n*8+7,none⟩) d).trans C;dsimp only at A B H J I F D C O;have b2:(Q != 2)=true:=(by simpa using O);have z:(j:Int)<(N:Int):=(by omega);have a8:g<wr.heap.size:=zm d b.o.size;have a6:¬g=wr.heap.size:=(by omega);have aO:¬g=wr.heap.size+1:=(by omega);have aL:gx<wr.heap.size:=zm R b.o.size;have aG:¬gx=wr.heap.size:=(by omega);have aT:ox+j*2+1=ox+(j*2+1):=(by omega);have h:Hid (Below wr wr ((wr.alloc (.cells #[.string xs,.int .i64 ((n:Int)+1)] 188)).alloc (.cells #[Q,ym,yu,yg,ys,Z,r,(yq,yn,yc)] 59))):=(zB.alloc zL _).alloc (by simp) _;clear aa T O;go_wp2;go_roundw;case rel=>exact⟨⟨_,_,rfl⟩,j+1,by omega,by go_num,Below.step b.o h.o,l.o.of_block (h.o.block _ l.o.lt),we h.o U.o⟩
     case measure=>simp[intOf];omega
    .obtain rfl:j=N:=(by omega);have z:¬(j:Int)<(j:Int):=(by omega);go_wp2;go_roundw;case rel=>exact⟨zu ⟨_,_,rfl⟩,b,l,U⟩
     case measure=>simp[lenV]
  .go_wp2;go_loopw [66] (fun i wr=>∃j:Nat,j<=32/\i=.int .i64 j/\Hid (Below w w wr)/\Hid (MapL prog 3 wr w.heap.size [(1,.bool true)])) (fun i _=>32-(intOf i).toNat);case atStart=>exact⟨0,by omega,rfl,b,l⟩
   case round=>
    clear b l U;obtain⟨n,hn,rfl,b,l⟩:=hrel;by_cases ag:n<32
    .have s:n<E.length:=(by rw[al.o];omega);have u:n<L.length:=(by rw[f.o.len];omega);obtain⟨A,B,H,J,I,F,D,C⟩:=mG HC.o n s;have m:E[n].k=2↔n=0:=(by rw[(HE.o.2 n s u).1];exact f.o.kd n u);generalize E[n]=y at A B H J I F D C m;obtain⟨Q,ym,yu,yg,ys,Z,r,yq,yn,yc⟩:=y;have A:=(b.o.cell (p:=⟨g,o+n*8,none⟩) d).trans A;have B:=(b.o.cell (p:=⟨g,o+n*8+1,none⟩) d).trans B;have H:=(b.o.cell (p:=⟨g,o+n*8+2,none⟩) d).trans H;have J:=(b.o.cell (p:=⟨g,o+n*8+3,none⟩) d).trans J;have I:=(b.o.cell (p:=⟨g,o+n*8+4,none⟩) d).trans I;have F:=(b.o.cell (p:=⟨g,o+n*8+5,none⟩) d).trans F;have D:=(b.o.cell (p:=⟨g,o+n*8+6,none⟩) d).trans D;have C:=(b.o.cell (p:=⟨g,o+n*8+7,none⟩) d).trans C;dsimp only at A B H J I F D C m;have z:(n:Int)<32:=(by omega);have a8:g<wr.heap.size:=zm d b.o.size;have a6:¬g=wr.heap.size:=(by omega);have h:Hid (Below wr wr (wr.alloc (.cells #[Q,ym,yu,yg,ys,Z,r,(yq,yn,yc)] 59))):=zB.alloc zL _;have M:Hid (MapL prog 3 (wr.alloc (.cells #[Q,ym,yu,yg,ys,Z,r,(yq,yn,yc)] 59)) w.heap.size [(1,.bool true)]):=l.o.of_block (h.o.block _ l.o.lt);have Y:Hid (Below w w (wr.alloc (.cells #[Q,ym,yu,yg,ys,Z,r,(yq,yn,yc)] 59))):=Below.step b.o h.o;by_cases h2:Q=2
     .have a9:=m.1 h2;subst a9 h2;clear m;simp only[um,vA]at A B H J I F D C;have a7:=M.o.look (k:=1) intT pw (la _) (by unfold InZ;omega);rw[show ((getZ [((1:Int),Value.bool true)] 1).getD (.bool false))=.bool true from rfl]at a7;by_cases aU:0<Z
      .go_wp2;go_roundw;case rel=>exact⟨1,by omega,by go_num,Y,M⟩
       case measure=>simp[intOf]
      .go_wp2;go_roundw;case rel=>exact⟨1,by omega,by go_num,Y,M⟩
       case measure=>simp[intOf]
     .have b2:(Q==2)=false:=(by simpa using h2);clear m h2;go_wp2;go_roundw;case rel=>exact⟨n+1,by omega,by go_num,Y,M⟩
      case measure=>simp[intOf];omega
    .obtain rfl:n=32:=(by omega);have z:¬((32:Nat):Int)<32:=(by omega);go_wp2
     go_end0
     exact⟨rfl,b.o⟩
