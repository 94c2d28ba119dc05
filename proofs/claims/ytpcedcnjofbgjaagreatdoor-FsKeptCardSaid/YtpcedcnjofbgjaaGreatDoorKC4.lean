import Derived.Test.YtpcedcnjofbgjaaGreatDoorKB2
import Derived.Test.YtpcedcnjofbgjaaGreatDoorKB6
set_option maxHeartbeats 0
set_option linter.all false
set_option maxRecDepth 100000
namespace Go.Proofs.YtpcedcnjofbgjaaGreatDoor
open Go.RowKit
variable {k:Nat} {x:Tx}
section
variable {s : Fs} {c : Nat} {A : Nat->AN} {B : Nat->List Pn×(Nat->AN)}
theorem N1 (k) (x) {t:Nat} (a:1<=t):∀j,(vi k x j).fo.nd t=x.fo.nd t
 | 0=>rfl
 | j+1=>by
  unfold vi;split
  .rw[<-N1 k x a j]
   funext i
   show (if t=0/\i=j then _ else (ownU (vi k x j).ow k ((vi k x j).fo.nd 0 j)).2.fo.nd t i)=_;rw[zb (by omega),Vn];rfl
  .exact N1 k x a j
theorem Z6 (k) (x) {t:Nat} (a:1<=t):(endT k x).fo.nd t=x.fo.nd t:=N1 k x a 16
def ThS (s s':Fs):Prop:=∀t,1<=t->uB s.fo t=true->uB s'.fo t=true
theorem ThS.stay (s):ThS s s:=λ_ _ h=>h
theorem ThS.ends (h:∀t,1<=t->uB s.fo t=true->uB x.fo t=true):ThS s (endS s x):=λt b c=>by
 unfold endS;split
 .show uB (endT s.k x).fo t=true;have a:=h t b c;unfold uB at a |-;rwa[Z6 s.k x b]
 .exact c
theorem ThS.di (d:DI x s):ThS s (endS s x):=ThS.ends λt _ h=>by unfold uB at h |-;rwa[d.nd]
theorem Ep (i) (D) (name) (k m u g) (b):ThS s (addM s i D name k m u g b).2:=by
 unfold addM;split
 .split
  .exact ThS.stay s
  .dsimp only;split
   .exact ThS.di ((((LA s).set _ _).fill ..).ent ..)
   .exact ThS.stay s
 .exact ThS.stay s
theorem CF: ThS s (ZJ s).2:=by
 unfold ZJ;split
 .next c=>
  refine ThS.ends λt e d=>?_;let⟨a,k,_,_,_,b,_⟩:=R8 c;rw[b,ja];lia
 .exact ThS.stay s
theorem Fk (x) (f:pk x.K 12=11->pk x.B 2=0):ThS s (doM s x).2:=by
 have d:=tX x.K 12 (by omega) (by omega);by_cases a:pk x.K 12=11
 .have e:(doM s x).2=(ZJ s).2:=by unfold doM;lia
  rw[e];exact CF
 .obtain⟨n,c⟩:∃n:Nat,(pk x.K 12).toNat=n:=⟨_,rfl⟩;have b:n<11:=by omega
  rw[doM,c]
  match n,b with
  | 0,_=>exact Ep _ _ _ _ _ _ _ _
  | 1,_=>exact Ep _ _ _ _ _ _ _ _
  | 2,_=>
   show ThS s (if inoN s x=0 then _ else _:Int×Fs).2;split
   .exact ThS.stay s
   .unfold wrtM;dsimp only
    repeat' split
    all_goals first|exact ThS.stay s|exact ThS.di (DI.wrt ..)
  | 3,_=>
   show ThS s (unlM ..).2;unfold unlM;dsimp only
   repeat' split
   all_goals first|exact ThS.stay s|exact ThS.di (((LA s).lea ..).drop ..)
  | 4,_=>
   show ThS s (movM ..).2;unfold movM;split
   .unfold movR
    repeat' split
    all_goals first|exact ThS.stay s|exact ThS.di (DI.mov ..)
   .exact ThS.stay s
  | 5,_=>
   show ThS s (if inoN s x=0 then _ else _:Int×Fs).2;split
   .exact ThS.stay s
   .unfold cutM;dsimp only
    repeat' split
    all_goals first|exact ThS.stay s|exact ThS.di (DI.cut ..)
  | 6,_=>
   show ThS s (if inoN s x=0 then _ else _:Int×Fs).2;split
   .exact ThS.stay s
   .unfold lnkM;dsimp only
    repeat' split
    all_goals first|exact ThS.stay s|exact ThS.di (((LA s).set _ _).ent ..)
  | 7,_=>
   show ThS s (symM ..).2;unfold symM;split
   .exact ThS.stay s
   .exact Ep _ _ _ _ _ _ _ _
  | 8,_=>
   show ThS s (if inoN s x=0 then _ else _:Int×Fs).2;split
   .exact ThS.stay s
   .unfold ownM;dsimp only;split
    .exact ThS.stay s
    .exact ThS.di ((LA s).set _ _)
  | 9,_=>
   show ThS s (rO ..).2;unfold rO;split
   .exact ThS.stay s
   .exact ThS.di ⟨rfl,λ_ _=>rfl,λ_ _ _=>rfl⟩
  | 10,_=>exact λ_ _ h=>h
theorem Oy {x:Tx} (a:x.dirty=[]) (k):∀j,vi k x j=x
 | 0=>rfl
 | j+1=>by rw[vi,Oy a k j,zb];rw[Nt,a];simp[getZ]
theorem Sl (a:x.nodes=s.nodes) (b:x.dirty=[]) (c:x.full=false):endE s x=0:=by
 rw[endE,zb,Oy b,zb (by rw[c];simp)];have:Qy s x=true:=by refine xp.2 λr _=>?_;rw[fitQ,mayQ,a,zb (by omega)];exact zX rfl
 lia
theorem Ew (L:SI s c A) (g:GI A λ_=>0) (r:RI A) (M:c<=1000) (hB:SJ s B):
 ((ZJ s).1.2=6)\/∃k:Nat,1<=k/\k<4/\(ZJ s).1=((k:Int),0)/\SI (ZJ s).2 (c+1) A/\uB (ZJ s).2.fo k=true/\∃B',SJ (ZJ s).2 B'/\∀i,i<32->(B' k).2 i=A i:=by
 by_cases j:(uQ s.fo).2.2=0
 .let⟨p,k,o,G,J,C,y⟩:=R8 j;have l:endE s {tx0 s with fo:=(uQ s.fo).1}=0:=Sl rfl rfl rfl;have t:=(L.snap M j).2;have q:=L.fin g (by omega) t g id L.rows (by simp) (VO j);rw[ze l]at q;have n:(ZJ s).2=endS s {tx0 s with fo:=(uQ s.fo).1}:=by rw[ZJ,ze j]
  have H:(ZJ s).1=((k:Int),0):=by unfold ZJ;lia
  have d:=VO j;have m:uB (endS s {tx0 s with fo:=(uQ s.fo).1}).fo k=true:=by unfold endS;rw[ze l];show uB (endT s.k _).fo k=true;rw[uB,Z6 s.k _ o];have:=ja s.fo k k;rw[ze rfl,p]at this;rwa[C]
  refine zw ⟨k,o,G,H,n▸q.1,n▸m,λu=>if u=0 then (s.nodes,A) else B (if u=(uQ s.fo).2.1 then 0 else u),?_,λi x=>?_⟩
  .rw[n];refine hB.ends L (by omega) t L.rows (by simp) l g r d.nd d.cl rfl λu D z E=>?_;let⟨a,b,e,f⟩:=d.tr u D z E;grind
  .show ((if k=0 then _ else _:List Pn×(Nat->AN))).2 i=_;rw[zb (by omega),y,ze rfl];have w:=(hB.tree 0 (by omega) p).1.v i x;rw[hB.live]at w;rw[<-w];exact (L.tv []).v i x
 .refine zu ?_;have F:uB s.fo 0=true:=by obtain⟨K,I⟩:=(L.tv []).ti.ex;exact I.root
  rw[ZJ,zb j];unfold uQ at j |-;lia
theorem DR (a:uB s.fo k=true):(je s k).1=0:=by rw[je,ze a];exact Sl rfl rfl rfl
theorem J5 (d:SI s c A) (g:GI A λ_=>0) (r:RI A) (f:c<=1000) (hB:SJ s B) (e:1<=k) (h:uB s.fo k=true):∃A',SI (je s k).2 (c+1) A'/\∃B',SJ (je s k).2 B':=by have a:=d.fin g (by omega) (d.forget f e).2 g id d.rows (by simp) (Z9 s e);rw[je,ze h];let⟨B',b,_⟩:=a.2.2.2 r B hB;grind
def nb (x:DoI):DoI:=if pk x.K 12=11 then {x with B:=0} else x
def mm (s:Fs) (l:List DoI):Fs:=l.foldl (λs x=>(doM s (nb x)).2) s
theorem Sc (s) (l) (x):mm s (l++[x])=(doM (mm s l) (nb x)).2:=by rw[mm,xf];rfl
theorem Jp: pk 0 2=0:=by kernel_rfl
theorem nb_ok (x):(pk (nb x).K 12=11->pk (nb x).B 2=0)/\(nb x).S=x.S:=by
 unfold nb;split
 .exact⟨λ_=>Jp,rfl⟩
 lia
theorem LT (G:SI s c A) (g:GI A λ_=>0) (r:RI A) (hB:SJ s B) {k:Nat} (F:1<=k) (H:k<4) (I:uB s.fo k=true) (l:List DoI) (K:c+l.length<=1000) (J:∀x∈l,x.S.size<=300):
 ∀j,j<=l.length->∃A',SI (mm s (l.take j)) (c+j) A'/\(GI A' λ_=>0)/\RI A'/\∃B',SJ (mm s (l.take j)) B'/\uB (mm s (l.take j)).fo k=true/\B' k=B k
 | 0,_=>⟨A,G,g,r,B,hB,I,rfl⟩
 | j+1,E=>by let⟨D,v,w,b,p,i,d,m⟩:=LT G g r hB F H I l K J j (by omega);rw[(zU (by omega)).symm,Sc];let⟨y,z⟩:=nb_ok l[j];let⟨u,n,f,h,q⟩:=v.doM w (by omega) (nb l[j]) (by rw[z];exact zv (J _ (Nj _)) (by omega));let⟨C,t,o⟩:=q b p i;have a:=Fk (nb l[j]) y k F d;grind
end
