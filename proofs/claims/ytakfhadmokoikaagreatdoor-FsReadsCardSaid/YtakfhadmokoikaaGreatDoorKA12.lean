import Derived.Test.YtakfhadmokoikaaGreatDoorKA3
import Derived.Test.YtakfhadmokoikaaGreatDoorKA10
import Derived.Lib.BufferWrite
import Derived.Deep.RegionHeldLaw
import Derived.Deep.RegionHeld3
import Derived.Laws.StructEq
set_option maxHeartbeats 0
set_option linter.all false
set_option maxRecDepth 100000
namespace Go.Proofs.YtakfhadmokoikaaGreatDoor
open Go.Proofs.Tryz Go.RowKit
variable {B B1 B2 n:Nat} {D P:List Int} {W W' w w':World} {fr:Nat×Nat} {g k l m s u up:Int} {t:TypeId} {v v1 v2:Value}
abbrev uz:=@NoPanic.normal
abbrev vZ:=@wp_region_noPanic
theorem jt: (prog.info? 5).map (fun i=>(i.zero,i.size,i.bytes))=some (some (.int .u8 0),1,1):=by kernel_rfl
theorem u8sT: prog.underlying 23=some (.slice 5):=by kernel_rfl
theorem jd: (prog.info? 5).map (·.size)=some 1:=by kernel_rfl
def lq (D:List Int) (w:World) (v:Value) (w':World):Prop:=
 ∃g cap cur,v=.slice (some ⟨g,0,none⟩) D.length cap/\(w.heap.size<=g/\D.length<=cap)/\w'.heap[g]?=some (.cells cur 5)/\cur.toList.take D.length=u8s D/\Below w w w'
theorem qZ {g cap:Nat} {cur:Array Value} (c:D.length=n) (h:w.heap[g]?=some (.cells cur t fr)) (d:cur.toList.take n=u8s D):
 vC w (g,0,n,cap) D:=by
 refine⟨by rw[vO];omega,zu ⟨g,0,cap,by rw[c],fun j x a=>?_⟩⟩;rw[yL,xR _ _ j _ t fr h];have b:=(zy.1 a).1;rw[vO]at b;rw[<-d,zI,ze (by omega)]at a;simpa using a
theorem lq.at (h:lq D w v w'):vC w' v D:=by obtain⟨g,d,a,rfl,_,c,b,_⟩:=h;exact qZ rfl c b
theorem lq.below (h:lq D w v w'):Below w w w':=by obtain⟨g,b,a,rfl,_,e,d,c⟩:=h;exact c
def lT (D:List Int) (w:World) (e:Ending) (w':World):Prop:=∃v,e=.returned v/\lq D w v w'
theorem jB (v:Value) (D:List Int) (w:World) (h:vC w v D) (T:0<D.length) (U:D.length<=1000000):
 Calls prog 87 #[v] w (lT D w):=by
 obtain⟨M,⟨S,_⟩|⟨g,o,c,rfl,E⟩⟩:=h
 .omega
 obtain⟨L,C,e,f,i⟩:=xp jt;have P:=Lib.hid C;have z:=Lib.hid e;have A:=Lib.hid f;have t:=Lib.hid i;clear C e f i;have K:=Lib.hid E;obtain⟨n,m⟩:=zA D.length;rw[<-m.o]at T U ⊢;clear E M;have I:∀(w:World) (a:Option Addr) (n c p r:Nat),(binOp .eql 23 (a,n,c) (.slice none p r)).run prog w=.ok (.bool a.isNone) w:=fun w a n c p r=>Lib.run_eql_slice_nil w _ _ a n c p r u8sT;go_enter func87,ntmps87;go_wp2_with (at_builtin;refine yH _ rfl _ _ 23 rfl w.heap.size 5 L (.int .u8 0) 1 1 u8sT P.o z.o A.o t.o rfl (by decide) _ _ _ rfl (uQ w #[] 0 zL zZ rfl) ⟨g,o,none⟩ n c (u8s D) rfl ?qc1 ?qc2 ?qc3 ?qc4 ?qc5 ?qc6 ?_)
 case qc1=>rw[vO,<-m.o];omega
 case qc2=>
  intro j u O;have l:(⟨g,o,none⟩:Addr).add j=⟨g,o+j,none⟩:=by unfold Addr.add;split<;>simp_all
  rw[l];have:=K.o j u O;rw[wk _ _ _ (zG this)];exact this
 case qc3=>exact oR D
 case qc4=>unfold maxLen;omega
 case qc5=>omega
 case qc6=>simp
 intro F Q d b B;go_wp2;go_ret;refine⟨F,rfl,?_⟩;obtain⟨_,⟨_,R⟩|⟨J,x,y,rfl,s,N,q,_,_,G⟩⟩:=d
 .omega
 .refine⟨J,x,y,by rw[m.o],⟨s,by rw[<-m.o];exact q⟩,N,by rw[<-m.o];simpa using G,?_⟩;exact ((xW _ w).alloc zL _).grown b (by simp) (by intro k H;simp[Value.ownBlock]at H;omega)
section
variable {w : World} {gd gs gn : Nat} {wt : Value} {E : List (Nat×Value)} {st : Dk} {L k : Nat} {F : Nat->Prop}
theorem Lies.c0 (h:Lies w gd gs gn wt E st L k F):w.cell? (gd,0)=some (.slice (some ⟨gs,0,none⟩) L L):=zC h.hd
theorem Lies.c1 (h:Lies w gd gs gn wt E st L k F):w.cell? (gd,1)=some (.slice (some ⟨gn,0,none⟩) L L):=zC h.hd
theorem Lies.c2 (h:Lies w gd gs gn wt E st L k F):w.cell? (gd,2)=some wt:=zC h.hd
theorem Lies.c3 (h:Lies w gd gs gn wt E st L k F):w.cell? (gd,3)=some (.int .i64 st.fu):=zC h.hd
theorem Lies.z (h:Lies w gd gs gn wt E st L k F) (i:Nat):w.frozen? (gd,i)=false:=by simp[World.frozen?,h.hd]
theorem VC (h:Lies w gd gs gn wt E st L k F):Calls prog 48 #[(gd,())] w fun e w'=>e=.returned k/\w=w':=by
 have f:=h.c1;have a:=h.hL;have c:=h.k1;have b:=Lib.hid a;have d:L<=1000000:=by omega
 clear h a;go_enter func48,ntmps48;go_wp2;go_ret;have:=b.o;exact⟨ret_i (by omega),rfl⟩
def decF (f:Int):Int:=if 0<f then f-1 else f
theorem X6 (h:Lies w gd gs gn wt E st L k F) (b:st.fu=0):Calls prog 132 #[(gd,())] w fun e w'=>e=.returned (.bool false)/\w=w':=by have a:=h.c3;rw[b]at a;clear h b;go_enter func132,ntmps132;go_wp2;go_ret;exact⟨rfl,rfl⟩
theorem X5 (h:Lies w gd gs gn wt E st L k F) (m:st.fu≠0):Calls prog 132 #[(gd,())] w fun e w'=>e=.returned (.bool true)/\Lies w' gd gs gn wt E {st with fu:=decF st.fu} L k F/\yK F w w':=by
 have d:=h.c3;have l:=h.z 3;have g:=h.f0;have a:=h.f1;have H:=Lib.hid h;obtain⟨f,b⟩:=zA st.fu;rw[<-b.o]at d m g a ⊢;clear h;by_cases c:0<f
 .have i:(f==0)=false:=by simpa using m
  clear m;go_enter func132,ntmps132;go_wp2;go_ret;have e:decF f=f-1:=by unfold decF;rw[ze c]
  rw[e];exact⟨rfl,H.o.setFu _ (by omega) (by omega),yK.setCell H.o.fd _⟩
 .have i:(f==0)=false:=by simpa using m
  clear m;go_enter func132,ntmps132;go_wp2;go_ret;have e:decF f=f:=by unfold decF;rw[zb (by omega)]
  rw[e];have j:({st with fu:=f}:Dk)=st:=by rw[b.o]
  rw[j];exact⟨rfl,H.o,yK.refl _ _⟩
theorem Oo {g:Nat} {l:List Int} {c:Nat} (d:l.length=64*k) (e:n<k) (h:w.heap[g]?=some (.cells (u8s l).toArray t fr)):
 vC w (.slice (some (g,n*64)) 64 c) (sec l n):=by
 refine⟨by rw[vO];omega,zu ⟨g,n*64,c,by rw[mD d e],fun j x a=>?_⟩⟩;rw[xR _ _ _ _ t fr h];have b:=(zy.1 a).1;rw[vO,mD d e]at b;unfold sec at a;rw[od,mr,zI,ze b,yo]at a;rw[xB,nT];exact a
def Ws (D:List Int) (w:World) (e:Ending) (w':World):Prop:=∃v,e=.returned (.tuple #[v,()])/\lq D w v w'
theorem Q4 (h:Lies w gd gs gn wt E st L k F) (n:Nat) (t:n<k):Calls prog 47 #[(gd,()),n] w (Ws (sec st.N n) w):=by
 have s:=h.c1;have a:st.N.length=64*k:=by rw[h.ln,h.hL]
 have q:=h.k1;have j:Hid (∀c,vC w (.slice (some (gn,n*64)) 64 c) (sec st.N n)):=fun c=>Oo a t h.hn;have b:Hid ((sec st.N n).length=64):=mD a t;have H:=Lib.hid h;have r:64*k<=L:=by have:=h.hL;omega
 have m:L<=64*k:=by have:=h.hL;omega
 clear h a;have p:¬(k:Int)<=(n:Int):=by omega
 have f:(0:Int)<=(n:Int):=by omega
 have g:((n:Int)+1)*64<=(L:Int):=by omega
 have d:¬L=n*64:=by omega
 go_enter func47,ntmps47
 go_wp2_with fail
 refine (VC H.o).mono ?_;rintro e i ⟨rfl,rfl⟩;go_wp2_with fail
 rw[show (n+1)*64-n*64=64 by omega];refine (jB _ _ _ (j.o _) (by rw[b.o];omega) (by rw[b.o];omega)).mono ?_;rintro e i ⟨v,rfl,l⟩;go_wp2;go_ret2;exact⟨v,rfl,l⟩
end
def WU (w:World) (B1 B2:Nat) (k m u g s l up:Int) (v1 v2:Value) (P:List Int) (W:World):Prop:=
 W.heap[B1]?=some (.cells #[k,m,u,g,s,l,up,v1] 59)/\W.heap[B2]?=some (.cells #[k,m,u,g,s,l,up,v2] 59)/\Below w w W/\vQ W v1 P/\vQ W v2 P
theorem WU.below (h:WU w B1 B2 k m u g s l up v1 v2 P W) (a:Below W W W'):WU w B1 B2 k m u g s l up v1 v2 P W':=
 ⟨we a h.1,we a h.2.1,Below.step h.2.2.1 a,xT.below h.2.2.2.1 a,xT.below h.2.2.2.2 a⟩
theorem mK (h:W.heap[B]?=some (.cells #[k,m,u,g,s,l,up,v] t)):W.cell? (B,0)=some (.int .i64 k)/\W.cell? (B,1)=some (.int .i64 m)/\W.cell? (B,2)=some (.int .i64 u)/\W.cell? (B,3)=some (.int .i64 g)/\W.cell? (B,4)=some (.int .i64 s)/\W.cell? (B,5)=some (.int .i64 l)/\W.cell? (B,6)=some (.int .i64 up)/\W.cell? (B,7)=some v:=by have c:=fun j=>xR W B j _ t (0,0) h;exact⟨c 0,c 1,c 2,c 3,c 4,c 5,c 6,c 7⟩
theorem WU.cells (h:WU w B1 B2 k m u g s l up v1 v2 P W):
 (W.cell? (B1,0)=some (.int .i64 k)/\W.cell? (B1,1)=some (.int .i64 m)/\W.cell? (B1,2)=some (.int .i64 u)/\W.cell? (B1,3)=some (.int .i64 g)/\W.cell? (B1,4)=some (.int .i64 s)/\W.cell? (B1,5)=some (.int .i64 l)/\W.cell? (B1,6)=some (.int .i64 up)/\W.cell? (B1,7)=some v1)/\(W.cell? (B2,0)=some (.int .i64 k)/\W.cell? (B2,1)=some (.int .i64 m)/\W.cell? (B2,2)=some (.int .i64 u)/\W.cell? (B2,3)=some (.int .i64 g)/\W.cell? (B2,4)=some (.int .i64 s)/\W.cell? (B2,5)=some (.int .i64 l)/\W.cell? (B2,6)=some (.int .i64 up)/\W.cell? (B2,7)=some v2):=⟨mK h.1,mK h.2.1⟩
def mg (P:List Int):Nat:=(P.filter fun p=> !(p==0)).length
theorem OI (P:List Int) (p:Int):mg (P++[p])=mg P+(if (p==0)=true then 0 else 1):=by unfold mg;rw[oG,zl];cases h:(p==0)<;>simp[h]
theorem YF (P:List Int):mg P<=P.length:=vd _ _
theorem TO (k m u g s l V:Int) (v:Value) (P:List Int) (w:World) (h:vQ w v P) (X:P.length<=1000000):
 Calls prog 162 #[.agg #[k,m,u,g,s,l,V,v]] w fun e w'=>e=.returned (.int .i64 (mg P:Int))/\Below w w w':=by
 obtain⟨N,n⟩:=zA P.length;obtain⟨p,t,K,O⟩:∃p t,v=.slice p N t/\Hid (∀W:World,Below w w W->0<N->∃g o,p=some ⟨g,o,none⟩/\∀j (D:j<P.length),W.cell? ⟨g,o+j,none⟩=some (.int .i64 P[j])):=by
  rw[n.o];obtain⟨_,⟨G,L,M,rfl⟩|⟨g,o,r,rfl,f⟩⟩:=h
  .exact⟨L,M,by rw[G],fun _ _ h=>by omega⟩
  .refine⟨_,r,rfl,fun W H _=>⟨g,o,rfl,fun j D=>?_⟩⟩;have:=f _ _ (mt P j D);exact (H.cell (zG this)).trans this
 rw[<-n.o]at X;subst K;clear h;have z:Below w w (w.alloc (.cells #[k,m,u,g,s,l,V,(p,N,t)] 59)):=zB.alloc zL _;go_enter func162,ntmps162;go_wp2
 go_loop [3,9] (fun c i=>∃k:Nat,k<=N/\i=.int .i64 k/\∃x:Nat,x<=k/\c=.int .i64 x/\Hid (x=mg (P.take k))) (fun _ i=>N-(intOf i).toNat)
 case atStart=>exact⟨0,ye _,rfl,0,ye _,rfl,rfl⟩
 case round=>
  obtain⟨k,Q,rfl,x,U,rfl,C⟩:=hrel;by_cases q:k<N
  .obtain⟨g,o,rfl,f⟩:=O.o _ z (by omega);have d:k<P.length:=(by rw[<-n.o];exact q);have J:=f k d;obtain⟨y,A⟩:=zA (P[k]);rw[<-A.out]at J;have E:Hid (mg (P.take (k+1))=x+(if (y==0)=true then 0 else 1)):=(by show _=_;rw[<-zY d,OI,<-C.o,<-A.out]);have R:=Lib.hid f;clear f;have B:(k:Int)<(N:Int):=(by omega);by_cases a:y=0
   .subst a;have b:Hid (x=mg (P.take (k+1))):=(by rw[E.o];simp[Hid]);go_wp2
    go_round
    case rel=>exact⟨k+1,by omega,by go_num,x,by omega,rfl,b⟩
    case measure=>simp[intOf];omega
   .have F:(y==0)=false:=(by simpa using a);have T:(y != 0)=true:=(by simpa using a);have b:Hid (x+1=mg (P.take (k+1))):=(by rw[E.o,F];simp[Hid]);have S:=Lib.hid a;clear a;go_wp2
    go_round
    case rel=>exact⟨k+1,by omega,by go_num,x+1,by omega,by go_num,b⟩
    case measure=>simp[intOf];omega
  .have I:Hid (x=mg P):=(by have:=C.o;rw[zv (by rw[<-n.o];omega)]at this;exact this);go_wp2;go_ret;rw[I.o];exact⟨rfl,z⟩
theorem Sr (k m u g s l a:Int) (v:Value) (w:World):
 Calls prog 42 #[.agg #[k,m,u,g,s,l,a,v]] w fun e w'=>e=.returned (.agg #[k,m,u,g,s,l])/\Below w w w':=by
 go_enter func42,ntmps42
 go_wp2;refine yS (v:=.agg #[k,m,u,g,s,l]) (by simp[results,results42,go_sem]) rfl ⟨rfl,?_⟩;exact (zB.alloc zL _).alloc (by simp) _
def Wv (w:World) (B1 B2:Nat) (k m u g s l up:Int) (v1 v2:Value) (P:List Int) (W:World):Prop:=
 W.heap[B1]?=some (.cells #[k,m,u,g,s,l,up,v1] 59)/\W.heap[B2]?=some (.cells #[k,m,u,g,s,l,up,v2] 59)/\Below w w W/\vQ W v1 P/\vQ W v2 P
theorem Wv.below (h:Wv w B1 B2 k m u g s l up v1 v2 P W) (a:Below W W W'):Wv w B1 B2 k m u g s l up v1 v2 P W':=
 ⟨we a h.1,we a h.2.1,Below.step h.2.2.1 a,xT.below h.2.2.2.1 a,xT.below h.2.2.2.2 a⟩
theorem uI (h:W.heap[B]?=some (.cells #[k,m,u,g,s,l,up,v] t)):W.cell? (B,0)=some (.int .i64 k)/\W.cell? (B,1)=some (.int .i64 m)/\W.cell? (B,2)=some (.int .i64 u)/\W.cell? (B,3)=some (.int .i64 g)/\W.cell? (B,4)=some (.int .i64 s)/\W.cell? (B,5)=some (.int .i64 l)/\W.cell? (B,6)=some (.int .i64 up)/\W.cell? (B,7)=some v:=by have c:=fun j=>xR W B j _ t (0,0) h;exact⟨c 0,c 1,c 2,c 3,c 4,c 5,c 6,c 7⟩
theorem Wv.cells (h:Wv w B1 B2 k m u g s l up v1 v2 P W):
 (W.cell? (B1,0)=some (.int .i64 k)/\W.cell? (B1,1)=some (.int .i64 m)/\W.cell? (B1,2)=some (.int .i64 u)/\W.cell? (B1,3)=some (.int .i64 g)/\W.cell? (B1,4)=some (.int .i64 s)/\W.cell? (B1,5)=some (.int .i64 l)/\W.cell? (B1,6)=some (.int .i64 up)/\W.cell? (B1,7)=some v1)/\(W.cell? (B2,0)=some (.int .i64 k)/\W.cell? (B2,1)=some (.int .i64 m)/\W.cell? (B2,2)=some (.int .i64 u)/\W.cell? (B2,3)=some (.int .i64 g)/\W.cell? (B2,4)=some (.int .i64 s)/\W.cell? (B2,5)=some (.int .i64 l)/\W.cell? (B2,6)=some (.int .i64 up)/\W.cell? (B2,7)=some v2):=⟨uI h.1,uI h.2.1⟩
