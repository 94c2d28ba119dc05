import Derived.Test.YtpcedcnjofbgjaaGreatDoorKB8
import Derived.Test.YtpcedcnjofbgjaaGreatDoorKB10
import Derived.Test.YtpcedcnjofbgjaaGreatDoorKC1
set_option maxHeartbeats 0
set_option linter.all false
set_option maxRecDepth 100000
namespace Go.Proofs.YtpcedcnjofbgjaaGreatDoor
open Go.Proofs.Tryz Go.RowKit
def wasT (th:Nat->Bool) (C:Nat->Nat->AN):Nat->ByteArray
 | 0=>⟨#[]⟩
 | t+1=>wasI (th (t+1)) (C (t+1)) (wasT th C t) 32
theorem Ef (th) (C) (t):wasT th C (t+1)=wasI (th (t+1)) (C (t+1)) (wasT th C t) 32:=rfl
theorem Cy {w:World} {gf:Nat} {s:Fs} {F:Nat->Prop} {a:Addr} {C:Nat->Nat->AN} (h:FsAt w gf s F a) (ho:FQ s C):
 Calls prog 27 #[(gf,())] w (κ w (.string (wasT (λt=>uB s.fo t) C 3))):=by
 have g:=za (λW (G:Below w w W) t i (I:1<=t) (H:t<4) (r:i<32)=>DH (h.below G) ho t i I H r);have j:Hid (∀t i,1<=t->t<4->i<32->(oldD (uB s.fo t) (C t i)).length<=512):=λt i I H r=>by
  unfold oldD;split
  .next hc=>
   obtain⟨X,_,_,e,_,_,_,h5⟩:=ho.node t I H hc.1 i r;rw[<-e];have:=mM (secE s) X.P X.s;omega
  .exact yh _
 obtain⟨b,l⟩:=zD (λt=>uB s.fo t);have L:Hid (∀t,uB s.fo t=b t):=λt=>by rw[<-l.o]
 rw[l.o];simp only[L.o]at g j;obtain⟨R,K⟩:=zD (wasT b C 3);rw[K.o];clear h ho;go_enter func27,ntmps27;go_wp2;go_loopw [3,4] (λN d wr=>∃(t:Nat) (x:ByteArray),t<=3/\d=.int .i64 ((t:Int)+1)/\N=.string x/\x.size<=40000*t/\Hid (wasT b C t=x)/\Hid (Below w w wr)) (λ_ d _=>5-(intOf d).toNat)
 .exact⟨0,⟨#[]⟩,by omega,rfl,rfl,by decide,rfl,zB⟩
 .obtain⟨t,x,ht,rfl,rfl,hx,U,f⟩:=hrel;by_cases ad:t<3
  .have E:(t:Int)+1<4:=(by omega);have iw:=zW (t+1+1) (by omega);go_wp2;go_loopw [3,5] (λN d wr=>∃(i:Nat) (y:ByteArray),i<=32/\d=.int .i64 ((i:Int)+1)/\N=.string y/\y.size<=40000*t+1200*i/\Hid (wasI (b (t+1)) (C (t+1)) x i=y)/\Hid (Below w w wr)) (λ_ d _=>40-(intOf d).toNat)
   .exact⟨0,x,by omega,rfl,rfl,by omega,rfl,f⟩
   .obtain⟨i,y,r,rfl,rfl,hy,M,f⟩:=hrel;by_cases c:i<32
    .have S:(i:Int)+1<=32:=(by omega);have af:=zW (i+1+1) (by omega);have Y:=za (g.o wr f.o (t+1) i (by omega) (by omega) c);have m:=j.o (t+1) i (by omega) (by omega) c;have p:=E5 (b (t+1)) (C (t+1) i);have B:Hid (wasI (b (t+1)) (C (t+1)) x (i+1)=y++(numI (oldE (b (t+1)) (C (t+1) i))++tu (oldD (b (t+1)) (C (t+1) i))++⟨#[124]⟩)):=(by show _=_;rw[<-M.o];rfl);have e1:(((t+1:Nat)))=(t:Int)+1:=(by omega);rw[e1]at Y;generalize oldE (b (t+1)) (C (t+1) i)=J at *
     generalize oldD (b (t+1)) (C (t+1) i)=u at *
     have n0:=kT J p.1 (by omega);have aa:(tu u).size<=512:=(by rw[rj];exact m);have HU:=za (λW=>SF J p.1 (by omega) W);clear m;go_wp2_with fail
     refine Y.o.mono ?_;rintro e V ⟨v,rfl,Z,q⟩;have Q:=za (zi f.o q);have n:Hid (∀W,Below V V W->(convert 38 9 v).run prog W=.ok (.string (tu u)) W):=λW G=>O7 u (uq.below Z G);clear Z q;generalize tu u=D at *
     have O:Hid ((y++(numI J++D++⟨#[124]⟩)).size<=40000*t+1200*(i+1)):=(by show _<=_;rw[Mn,Mn,Mn,show (⟨#[124]⟩:ByteArray).size=1 from rfl];omega);go_wp2_with fail
     refine vg (by kernel_rfl) (by kernel_rfl) ?_
     repeat (first
      | go_big_quiet_skip
      | (refine tN rfl (.string D) (λw' z=>TH 38 9 _ rfl v (.string D) rfl (n.o w' (us z))) ?_;simp only[Act.put,zP,yf,yb])
      | (refine mI _ rfl rfl _ rfl (λ_ _=>vY) HU.o ?_;simp only[Act.put,zP,yf,yb])
      | (go_big_quiet_want;go_big_quiet_op;go_big_quiet_on))
     refine vn ?_;intro w2 k;have T:=za (zi Q.o (us k));clear k n;go_wp2;go_roundw
     .exact⟨i+1,_,by omega,by go_num,rfl,O.o,B,T⟩
     .simp[intOf];omega
    .obtain rfl:i=32:=(by omega);have S:¬((32:Nat):Int)+1<=32:=(by omega);have A:Hid (wasT b C (t+1)=y):=(by show _=_;rw[Ef,U.o];exact M.o);clear M;go_wp2;go_roundw
     .exact⟨t+1,y,by omega,by go_num,rfl,by omega,A,f⟩
     .simp[intOf];omega
  .obtain rfl:t=3:=(by omega);have E:¬((3:Nat):Int)+1<4:=(by omega);obtain rfl:x=R:=U.o.symm.trans K.o;clear U K;go_wp2;go_ret;exact⟨rfl,f.o⟩
theorem ybqp (v) (l) (x:DoI) (w) (h:mi w v l) (hl:l.length<=maxLen) (hs:∀x,x∈l->x.S.size<=maxLen) (hx:x.S.size<=maxLen):
 Calls prog 6 #[v,.agg #[x.K,x.A,x.B,x.C,.string x.S]] w (κ w (.bool true)):=by
 have a2:=za (λW=>Pv W);have ai:=za (λW (hW:Below w w W)=>Ri v l W (uq.below h hW) hl hs);have Y:Hid (so l=true->∀W,Below w w W->Calls prog 12 #[v] W (λe w'=>∃k p F A B,e=.returned (.tuple #[.pointer (some ⟨k,0,none⟩),(p:Addr)])/\FsAt w' k (fB l) F p/\SI (fB l) 40 A/\(GI A λ_=>0)/\RI A/\SJ (fB l) B/\Below W W w'/\∀i,F i->W.heap.size<=i)):=λhb W hW=>by obtain⟨h1,h2⟩:=Rj hb;obtain⟨A,T,h4,h5,B,h6⟩:=TC l (by omega) h2 l.length zL;rw[xN]at T h6;refine (TB v l W (uq.below h hW) h1 h2).mono ?_;rintro e w' ⟨k,p,F,rfl,q1,q2,q3⟩;exact⟨k,p,F,A,B,rfl,q1,T.mono h1 (by omega),h4,h5,h6,q2,q3⟩
 obtain⟨sb,a5⟩:=zD (so l);rw[a5.o]at ai Y;obtain⟨n,z,q,E,b⟩:=x;dsimp only at hx |-;clear h hl hs;have a7:=za ((xW w w).alloc zL (.cells #[n,z,q,E,.string b] 30));have aw:Hid ((w.alloc (.cells #[n,z,q,E,.string b] 30)).heap[w.heap.size]?=some (.cells #[n,z,q,E,.string b] 30)):=zH;go_enter func6,ntmps6;go_wp2_with fail
 refine (a2.o _).mono ?_;rintro e w1 ⟨rfl,R⟩;have aj:=za (zi a7.o R);have a3:=za (xV R aw.o);clear R;go_wp2_with fail
 refine (ai.o w1 aj.o).mono ?_;rintro e w2 ⟨rfl,J⟩;have c:=za (zi aj.o J);have H:=za (xV J a3.o);clear J;cases sb with
 | false=>
  go_wp2;go_ret;exact⟨rfl,c.o⟩
 | true=>
 have c4:w2.cell? (w.heap.size,4)=some (.string b):=by rw[zC H.o];rfl
 by_cases ah:600<b.size
 .have f:600<(b.size:Int):=by omega
  have Z:=zX f;go_wp2;go_ret;exact⟨rfl,c.o⟩
 have f:¬600<(b.size:Int):=by omega
 have Z:=zJ f;have ae:=za (M0 ah);have a4:=za (Y.o rfl w2 c.o);clear ah;go_wp2_with fail
 refine a4.o.mono ?_;rintro e w3 ⟨k,p,F,A,B,rfl,T,N,g3,r3,j3,L,f3⟩;generalize fB l=S at *
 have M:=za (zi c.o L);have ag:=za (xV L H.o);have bb:Hid (w.heap.size<w3.heap.size/\¬F w.heap.size):=⟨xB ag.o,λhc=>by have:=f3 _ hc;have:=xB H.o;omega⟩;have ay:Hid (∀i,F i->w.heap.size<=i):=λi hi=>zv c.o.size (f3 i hi);have O:=za (λW G (I:FsAt W k S G p)=>hQ I (N.see g3));have Q:=za (λW G (I:FsAt W k S G p)=>Cy I (j3.old N));have ax:=za (λW G (I:FsAt W k S G p)=>Pr I N.byteE (j3.fine N));obtain⟨T1,aA⟩:=zD (allT A (λu=>nt S.nodes (u:Int) 32));obtain⟨T2,az⟩:∃t,Hid (wasT (λt=>uB S.fo t) (λt=>(B t).2) 3=t):=⟨_,za rfl⟩;rw[aA.o]at O;rw[az.o]at Q;have ab:=za (λW (hW:Below w3 w3 W)=>Fl (T.below hW) N g3 (by omega) ⟨n,z,q,E,b⟩ ae.o);have V:Hid (∀W G,FsAt W k (doM S ⟨n,z,q,E,b⟩).2 G p->Calls prog 11 #[(k,())] W (κ W (.slice none 0 0))):=λW G I=>by obtain⟨A',a,_,_,d⟩:=N.doM g3 (by omega) ⟨n,z,q,E,b⟩ ae.o;obtain⟨B',d,_⟩:=d r3 B j3;exact Pr I a.byteE (d.fine a)
 have ac:=za (λh=>do_err (s:=S) ⟨n,z,q,E,b⟩ h);obtain⟨⟨er,s1⟩,HM⟩:∃r,Hid (doM S ⟨n,z,q,E,b⟩=r):=⟨_,za rfl⟩;rw[HM.o]at ab V ac;have H3:=za T;clear T N g3 r3 j3 L f3 c4;go_wp2_with fail
 refine (O.o w3 F H3.o).mono ?_;rintro e w4 ⟨rfl,ao⟩;have ak:=za ao;clear ao;go_wp2_with fail
 refine (Q.o w4 F (H3.o.below ak.o)).mono ?_;rintro e U ⟨rfl,am⟩;have D:=za (zi ak.o am);have g:=za (xV D.o ag.o);clear am;have c0:U.cell? (w.heap.size,0)=some (.int .i64 n):=by rw[zC g.o];rfl
 have c1:U.cell? (w.heap.size,1)=some (.int .i64 z):=by rw[zC g.o];rfl
 have c2:U.cell? (w.heap.size,2)=some (.int .i64 q):=by rw[zC g.o];rfl
 have c3:U.cell? (w.heap.size,3)=some (.int .i64 E):=by rw[zC g.o];rfl
 have c4:U.cell? (w.heap.size,4)=some (.string b):=by rw[zC g.o];rfl
 have a6:=za (ab.o U D.o);go_wp2_with fail
 refine a6.o.mono ?_;rintro e w6 ⟨rfl,F6,h6,_,k6⟩;have P:=za ((M.o.trans (D.o.mono M.o.size)).trans (k6.to_below (λi hi=>ay.o i hi) (zv M.o.size D.o.size)));have H6:=za h6;clear h6 k6 c0 c1 c2 c3 c4;by_cases m:er=0
 .subst m;have a0:=za (V.o w6 F6 H6.o);go_wp2_with fail
  refine a0.o.mono ?_;rintro e w7 ⟨rfl,j⟩;have y:=za (zi P.o j);clear j;go_wp2;go_ret;exact⟨rfl,y.o⟩
 .have b1:(er==0)=false:=by simpa using m
  have a8:=ac.o m;subst a8;clear m;go_wp2_with fail
  refine (O.o w6 F6 H6.o).mono ?_;rintro e w7 ⟨rfl,j⟩;have y:=za j;clear j;go_wp2_with fail
  refine (Q.o w7 F6 (H6.o.below y.o)).mono ?_;rintro e w8 ⟨rfl,X⟩;have af:=za (zi y.o X);clear X;go_wp2_with fail
  refine (ax.o w8 F6 (H6.o.below af.o)).mono ?_;rintro e w9 ⟨rfl,aa⟩;have a1:=za (P.o.trans ((zi af.o aa).mono P.o.size));clear aa;go_wp2;go_ret;exact⟨by simp,a1.o⟩
