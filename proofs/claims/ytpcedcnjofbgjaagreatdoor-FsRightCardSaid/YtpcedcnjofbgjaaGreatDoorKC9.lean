import Derived.Test.YtpcedcnjofbgjaaGreatDoorKB6
set_option maxHeartbeats 0
set_option linter.all false
set_option maxRecDepth 100000
namespace Go.Proofs.YtpcedcnjofbgjaaGreatDoor
open Go.Proofs.Tryz Go.RowKit
theorem ycai (v) (l) (w) (h:mi w v l) (hl:l.length<=maxLen) (hs:∀x,x∈l->x.S.size<=maxLen):
 Calls prog 3 #[v] w (κ w (.bool true)):=by
 have ah:=za (Pv w);have O:=za (λW (hW:Below w w W)=>Ri v l W (uq.below h hW) hl hs);have H:Hid (so l=true->l.length<=40/\(∀x∈l,x.S.size<=300)/\∀k,k<=l.length->∃A,SI (fB (l.take k)) k A/\(GI A λ_=>0)/\∃B,SJ (fB (l.take k)) B):=λhb=>by obtain⟨E,Z⟩:=Rj hb;refine⟨E,Z,λk hk=>?_⟩;obtain⟨A,a,b,_,B,c⟩:=TC l (by omega) Z k hk;exact⟨A,a,b,B,c⟩
 obtain⟨N,HN⟩:=zA l.length;obtain⟨p,cp,hv,hp⟩:=Py h N HN.o;subst hv;have HP:=za hp;obtain⟨sb,aj⟩:=zD (so l);rw[aj.o]at O H;clear h hl hs hp;go_enter func3,ntmps3;go_wp2_with fail
 refine ah.o.mono ?_;rintro e w1 ⟨rfl,X⟩;have Q:=za X;clear X;go_wp2_with fail
 refine (O.o w1 Q.o).mono ?_;rintro e w2 ⟨rfl,K⟩;have r:=za (zi Q.o K);clear K;cases sb with
 | false=>
  go_wp2;go_ret;exact⟨rfl,r.o⟩
 | true=>
 obtain⟨m,j,d⟩:=H.o rfl;have HL:=za m;have HS:=za j;have U:=za d;have af:=za (OI 96 (by omega) (by omega) w2);clear m j d;go_wp2_with fail
 refine af.o.mono ?_;rintro e Y ⟨D,a,F1,rfl,E,L,P⟩;have H1:Hid (FsAt Y D (fB (l.take 0)) F1 a):=E;have t:=za (zi r.o L);have ad:Hid (∀i,F1 i->w.heap.size<=i):=λi hi=>zv r.o.size (P i hi);clear E L P;go_wp2;go_loopw [20] (λi wr=>∃k:Nat,k<=N/\i=.int .i64 k/\Hid (∃F,FsAt wr D (fB (l.take k)) F a/\∀i,F i->w.heap.size<=i)/\Hid (Below w w wr)) (λi _=>N-(intOf i).toNat)
 .exact⟨0,yh _,rfl,⟨F1,H1.o,ad.o⟩,t⟩
 .obtain⟨k,hk,rfl,HF,y⟩:=hrel;by_cases ae:k<N
  .obtain⟨g,o,rfl,J,hc⟩:=HP.o (by omega);have u:k<l.length:=(by rw[<-HN.o];exact ae);obtain⟨q1,q2,q3,q4,q5⟩:=hc k u;obtain⟨x,Hx⟩:=zD (l[k]);rw[Hx.o]at q1 q2 q3 q4 q5;have c1:=(y.o.cell (p:=⟨g,o+k*5,none⟩) J).trans q1;have c2:=(y.o.cell (p:=⟨g,o+(k*5+1),none⟩) J).trans q2;have c3:=(y.o.cell (p:=⟨g,o+(k*5+2),none⟩) J).trans q3;have c4:=(y.o.cell (p:=⟨g,o+(k*5+3),none⟩) J).trans q4;have c5:=(y.o.cell (p:=⟨g,o+(k*5+4),none⟩) J).trans q5;rw[<-yp]at c2 c3 c4 c5;obtain⟨F,hF,M⟩:=HF.o;obtain⟨A0,d,I,_⟩:=U.o k (by omega);obtain⟨A1,f,_,B1,n⟩:=U.o (k+1) (by omega);have ar:x.S.size<=300:=(by rw[<-Hx.o];exact HS.o _ (Nj u));have e1:fB (l.take (k+1))=(doM (fB (l.take k)) x).2:=(by rw[<-pJ,<-Hx.o,zU u]);have s:=za (λ(W:World) (hW:Below wr wr W)=>Fl (hF.below hW) d I (by have:=HL.o;omega) x (by omega));rw[<-e1]at s;have G:Hid (∀W F,FsAt W D (fB (l.take (k+1))) F a->Calls prog 11 #[(D,())] W (κ W (.slice none 0 0))):=λW F hf=>Pr hf f.byteE (n.fine f);obtain⟨R,HR⟩:=zD (fB (l.take (k+1)));rw[HR.o]at s G;have V:=za M;obtain⟨kk,A,B,C,S⟩:=x;clear hc q1 q2 q3 q4 q5 hF M d I ar e1 HF f n;have a8:k<(N:Int):=(by omega);have a3:N<=40:=(by rw[HN.o];exact HL.o);have T:Hid (Below wr wr (wr.alloc (.cells #[kk,A,B,C,.string S] 30))):=zB.alloc zL _;have aa:=za (s.o _ T.o);go_wp2_with fail
   refine aa.o.mono ?_;rintro e Y ⟨rfl,F3,h3,f3,k3⟩;have q:=za (zi y.o T.o);have HX:Hid (∃F,FsAt Y D R F a/\∀i,F i->w.heap.size<=i):=⟨F3,h3,λi hi=>(f3 i hi).elim (V.o i) (λh=>zv q.o.size h)⟩;have t:=za (q.o.trans (k3.to_below V.o q.o.size));have ag:=za (G.o Y F3 h3);clear h3 f3 k3;go_wp2_with fail
   refine ag.o.mono ?_;rintro e w4 ⟨rfl,z⟩;have ao:Hid (∃F,FsAt w4 D R F a/\∀i,F i->w.heap.size<=i):=(by obtain⟨F,E,Z⟩:=HX.o;exact⟨F,E.below z,Z⟩);have an:=za (zi t.o z);clear z;go_wp2;go_roundw
   .exact⟨k+1,by omega,by go_num,by rw[HR.o];exact ao,an⟩
   .simp[intOf];omega
  .obtain rfl:k=N:=(by omega);go_wp2;go_ret;exact⟨rfl,y.o⟩
