import Derived.Test.YtpcedcnjofbgjaaGreatDoorKA24
import Derived.Test.YtpcedcnjofbgjaaGreatDoorKB1
set_option maxHeartbeats 0
set_option linter.all false
set_option maxRecDepth 100000
namespace Go.Proofs.YtpcedcnjofbgjaaGreatDoor
open Go.Proofs.Tryz Go.RowKit
theorem VQ (l:List DoI) (j:l.length<=1000) (i:∀x∈l,x.S.size<=300):∀k,k<=l.length->∃A,SI (fB (l.take k)) k A/\(GI A λ_=>0)/\RI A
 | 0,_=>⟨ZC,N6 (by lia) (by lia),Sa,KH⟩
 | k+1,h=>by let⟨A,f,d,g⟩:=VQ l j i k (by lia);rw[(zU (by omega)).symm,pJ];obtain⟨B,a,b,c,_⟩:=f.doM d (by lia) _ (zv (i _ (Nj _)) (by lia));exact⟨B,a,b,c g⟩
theorem Ij (l:List DoI) (c:l.length<=1000) (d:∀x∈l,x.S.size<=300) (k) (e:k<=l.length):∃A,SI (fB (l.take k)) k A/\GI A λ_=>0:=have⟨A,a,b,_⟩:=VQ l c d k e;⟨A,a,b⟩
theorem TB (v) (l) (w) (h:mi w v l) (hl:l.length<=40) (hs:∀x∈l,x.S.size<=300):
 Calls prog 12 #[v] w (λe w'=>∃gf a F,e=.returned (.tuple #[.pointer (some ⟨gf,0,none⟩),(a:Addr)])/\FsAt w' gf (fB l) F a/\Below w w w'/\∀i,F i->w.heap.size<=i):=by
 let⟨N,s⟩:=zA l.length;let⟨p,cp,hv,hp⟩:=Py h N s;rw[<-s.o]at hl;subst hv;have HM:Hid (fB l=fB (l.take N)):=by show _=_;rw[s.o,xN]
 rw[HM.o];go_enter func12,ntmps12;go_wp2_with fail
 refine (za (OI 96 (by omega) (by omega) w)).o.mono ?_;rintro e w1 ⟨gf,a,F1,rfl,h1,y,r⟩;have H1:Hid (FsAt w1 gf (fB (l.take 0)) F1 a):=h1;go_wp2;go_loopw [16] (λi wr=>∃k:Nat,k<=N/\i=.int .i64 k/\Hid (∃F,FsAt wr gf (fB (l.take k)) F a/\∀i,F i->w.heap.size<=i)/\Hid (Below w w wr)) (λi _=>N-(intOf i).toNat)
 .exact⟨0,yh _,rfl,⟨F1,H1,(za r)⟩,za y⟩
 .obtain⟨k,hk,rfl,J,j⟩:=hrel;by_cases I:k<N
  .obtain⟨g,o,rfl,q,Z⟩:=(za hp).o (by lia);have f:k<l.length:=(by rwa[<-s.o]);let⟨U,P,E,V,M⟩:=Z k f;let⟨x,Q⟩:=zD (l[k]);rw[Q.o]at U P E V M;have c1:=(j.o.cell (p:=⟨g,o+k*5,none⟩) q).trans U;have c2:=(j.o.cell (p:=⟨g,o+(k*5+1),none⟩) q).trans P;have c3:=(j.o.cell (p:=⟨g,o+(k*5+2),none⟩) q).trans E;have c4:=(j.o.cell (p:=⟨g,o+(k*5+3),none⟩) q).trans V;have c5:=(j.o.cell (p:=⟨g,o+(k*5+4),none⟩) q).trans M;rw[<-yp]at c2 c3 c4 c5;let⟨F,z,b⟩:=J.o;let⟨A0,m,n⟩:=(za (Ij l (by rw[<-s.o];omega) hs)).o k (by lia);have T:x.S.size<=300:=(by rw[<-Q.o];exact (za hs) _ (Nj f));have Y:fB (l.take (k+1))=(doM (fB (l.take k)) x).2:=(by rw[<-pJ,<-Q.o,zU f]);have d:=za (λ(W:World) (hW:Below wr wr W)=>Fl (z.below hW) m n (by lia) x (by lia));rw[<-Y]at d;let⟨R,HR⟩:=zD (fB (l.take (k+1)));rw[HR.o]at d;have u:=za b;let⟨kk,A,B,C,S⟩:=x;clear Z U P E V M z b m n T Y J;have af:k<(N:Int):=(by lia);have t:Hid (Below wr wr (wr.alloc (.cells #[kk,A,B,C,.string S] 30))):=zB.alloc zL _;go_wp2_with fail
   refine (za (d.o _ t.o)).o.mono ?_;rintro e w3 ⟨rfl,F3,X,f3,k3⟩;have c:=za (zi j t);go_wp2;go_roundw
   .exact⟨k+1,by lia,by go_num,by rw[HR.o];exact ⟨F3,X,λi hi=>(f3 i hi).elim (u.o i) (λh=>zv c.o.size h)⟩,za (c.o.trans (k3.to_below u.o c.o.size))⟩
   .simp[intOf];lia
  .obtain rfl:k=N:=(by lia);go_wp2;go_ret2;let⟨F,z,b⟩:=J.o;exact⟨gf,a,F,rfl,z,j,b⟩
