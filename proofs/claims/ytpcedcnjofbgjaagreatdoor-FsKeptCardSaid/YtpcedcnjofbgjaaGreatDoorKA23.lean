import Derived.Test.YtpcedcnjofbgjaaGreatDoorKA22
set_option maxHeartbeats 0
set_option linter.all false
set_option maxRecDepth 100000
namespace Go.Proofs.YtpcedcnjofbgjaaGreatDoor
open Go.Proofs.Tryz Go.RowKit
variable {F:Nat->Prop} {a:Addr} {b:ByteArray} {e:En} {i k:Nat} {o:Option Nat} {put:List (Int×List Int)} {s:Fs} {st:Dk} {u:Int} {w:World} {δ:Nat->Int}
def cutB (D:List Int) (sz:Nat):List Int:=(List.range sz).map λq=>D.getD q 0
section
variable {x : Tx} {s : Fs} {n c i : Nat} {A : Nat->AN} {T : List Nat} {δ : Nat->Int}
theorem TI.reGone (h:TI x s T) {g:List Int} (q:∀p,p≠0->(p∈g↔p∈x.gone)):TI {x with gone:=g} s T:=by
 let⟨⟨o,c⟩,d,e,k,n,j,l⟩:=h;refine⟨⟨o,{c with gn:=λp a f=>c.gn p ((q p f).1 a) f,sl:=λp i b a=>?_}⟩,d,e,k,n,j,l⟩;rcases c.sl p i b a with h|⟨m,d,e⟩
 .exact zu h
 .have:=c.lt a;grind
theorem CL (l) (p):p∈srtI l↔p∈l:=(MF _ _).mem_iff
theorem Dx (P) (K) (p) (a:p≠0):p∈srtI (pR P K)↔p∈([]++(P.drop K).reverse):=by rw[CL];simp[pR,nzF,a]
theorem Ip (i) (e:i<32) (f:s.nodes.length=32) (sz:Nat):
 cutT s i (s.nodes.getD i zN) sz={((tx0 s).cutX i (blkN sz) sz).uw i (if (ZI (s.nodes.getD i zN).P (blkN sz) (s.nodes.getD i zN).s sz).toNat=0 then ((tx0 s).cutX i (blkN sz) sz).uy i else
  wrU s.k (((tx0 s).cutX i (blkN sz) sz).uy i) (blkN sz-1) ((blk ((tx0 s).cutX i (blkN sz) sz) s i (blkN sz-1)).take (ZI (s.nodes.getD i zN).P (blkN sz) (s.nodes.getD i zN).s sz).toNat++List.replicate (64-(ZI (s.nodes.getD i zN).P (blkN sz) (s.nodes.getD i zN).s sz).toNat) 0)) with gone:=srtI (pR (s.nodes.getD i zN).P (blkN sz))}:=by
 have a:(tx0 s).nodes=s.nodes:=rfl;have c:((tx0 s).cutX i (blkN sz) sz).uy i=⟨(tx0 s).ow,[],resP (s.nodes.getD i zN).P (blkN sz)⟩:=by unfold Tx.uy Tx.cutX resP;simp only[a,sY,f,e,Mw,Mt];rfl
 have d:blk ((tx0 s).cutX i (blkN sz) sz) s i (blkN sz-1)=sc (tx0 s) s (resP (s.nodes.getD i zN).P (blkN sz)) (blkN sz-1):=by
  have b:((tx0 s).cutX i (blkN sz) sz).pf i (blkN sz-1)=(resP (s.nodes.getD i zN).P (blkN sz)).getD (blkN sz-1) 0:=by unfold Tx.pf;rw[ze e];simp only[Tx.cutX,resP,a,sY,f,e,Mw,Mt]
  rw[blk,sc,uY,b];rfl
 rw[c,d];simp only[cutT,cutY,Tx.uw,Tx.cutX,a,sY,f,e,Mw,Mt,MI];rfl
theorem SI.cut (
 hs:SI s c A) (g:GI A λ_=>0) (hc:c<=1000) (hi:i<32) (hk:(A i).k=1) {sz:Nat} (hz:sz<=512):
 Iz s i sz/\TV (cutT s i (s.nodes.getD i zN) sz) s 8 [i] (upA A i {A i with s:=((cutB (A i).D sz).length),D:=cutB (A i).D sz})/\GI (upA A i {A i with s:=((cutB (A i).D sz).length),D:=cutB (A i).D sz}) λ_=>0:=by
 have m:=hs.tv [i];have O:s.nodes.length=32:=m.ti.len;have o:(cutB (A i).D sz).length=sz:=by rw[cutB,yD,MB]
 have t:(blkN sz)=jy sz:=by unfold blkN jy;lia
 have hK:blkN sz<=8:=by unfold jy at t;lia
 have ar:sz<=64*blkN sz/\64*blkN sz<sz+64:=by unfold jy at t;lia
 have B:=m.ti.cutX hi (blkN sz) (sz:Int) (by omega) t (m.ne hi (by lia));have hn:(tx0 s).nodes=s.nodes:=rfl;have hP:((((tx0 s).cutX i (blkN sz) sz).nodes.getD i zN).P).length=blkN sz:=by unfold Tx.cutX;grind
 have ae:(srtI (pR (s.nodes.getD i zN).P (blkN sz))).length<=8:=by have I:(srtI (pR (s.nodes.getD i zN).P (blkN sz))).length=(pR (s.nodes.getD i zN).P (blkN sz)).length:=(MF _ _).length_eq;have J:(pR (s.nodes.getD i zN).P (blkN sz)).length<=((s.nodes.getD i zN).P.drop (blkN sz)).reverse.length:=vJ _ _;rw[uJ,Nk]at J;have:(s.nodes.getD i zN).P.length<=8:=fld8 (m.ti.nd i hi);omega
 have F:∀j b,j<32->blk ((tx0 s).cutX i (blkN sz) sz) s j b=if j=i/\blkN sz<=b then List.replicate 64 0 else blk (tx0 s) s j b:=λj b d=>by
  unfold blk;rw[TG m.ti.len hi (blkN sz) (sz:Int)];simp only;by_cases hc:j=i/\blkN (sz:Int)<=b
  .rw[ze hc,ze hc];rfl
  .rw[zb hc,zb hc];rfl
 have ay:=(hs.A_at hi).2.2.2.2.1
 -- what stands behind it, block by block
 have X:∃y,cutT s i (s.nodes.getD i zN) sz={y with gone:=srtI (pR (s.nodes.getD i zN).P (blkN sz))}/\y.gone=((tx0 s).cutX i (blkN sz) sz).gone/\TI y s [i]/\y.rows=s.rows/\256<=y.fake/\y.fake<=264/\y.put.length<=8/\y.dirty.length<=1 /\
  (∃P,y.nodes=s.nodes.set i {s.nodes.getD i zN with P:=P,s:=sz})/\∀j b,j<32->∀r,r<64->(blk y s j b)[r]?=if j=i/\sz<=64*b+r then some 0 else (blk (tx0 s) s j b)[r]? :=by
  have E:∀P,(((tx0 s).cutX i (blkN sz) sz).nodes.set i {((tx0 s).cutX i (blkN sz) sz).nodes.getD i zN with P:=P})=s.nodes.set i {s.nodes.getD i zN with P:=P,s:=sz}:=λP=>by unfold Tx.cutX;simp_all
  have S:∀b r,r<64->(s.nodes.getD i zN).s<=((64*b+r:Nat))->(blk (tx0 s) s i b)[r]?=some 0:=λb r n f=>m.z i hi b r n f;rw[Ip i hi O sz];split
  .rename_i h;refine⟨_,rfl,rfl,by rwa[QT _ _ B.len hi],rfl,Mr _,by show (256:Int)<=264;omega,yh _,zL,⟨_,E _⟩,λj b d r n=>?_⟩;rw[QT _ _ B.len hi,F j b d];by_cases a:j=i
   .subst a;by_cases G:blkN (sz:Int)<=b
    .rw[ze ⟨rfl,G⟩,ze ⟨rfl,by omega⟩,vx,ze n]
    .rw[zb (by omega)];by_cases f:sz<=64*b+r
     .rw[ze ⟨rfl,f⟩];have w:b=blkN sz-1:=(by omega);unfold ZI at h;split at h
      .rename_i I;omega
      .rename_i I;by_cases J:(sz:Int)<(s.nodes.getD j zN).s
       .have h3:(resP (s.nodes.getD j zN).P (blkN sz)).getD (blkN sz-1) 0=0:=by
         by_cases h4:(resP (s.nodes.getD j zN).P (blkN sz)).getD (blkN sz-1) 0=0
         .exact h4
         .exact yi ⟨J,by omega,h4⟩ I
        unfold resP at h3;rw[WE,zb (by omega)]at h3;have h5:(tx0 s).pf j b=0:=(by unfold Tx.pf;rw[ze d,w];exact h3);unfold blk uY;rw[h5,ze rfl,vx,ze n]
       .exact S b r n (by omega)
     .rw[zb (by omega)]
   lia
  .rename_i h;have K:(ZI (s.nodes.getD i zN).P (blkN sz) (s.nodes.getD i zN).s sz).toNat=sz%64/\0<sz%64:=by
    unfold ZI at h |-;split
    .rename_i I;omega
    .rename_i I;rw[zb I]at h;exact yi rfl h
   rw[K.1];have L:=B.blk_ok hs.sec hi (blkN (sz:Int)-1);have U:qC ((blk ((tx0 s).cutX i (blkN sz) sz) s i (blkN sz-1)).take (sz%64)++List.replicate (64-sz%64) 0):=λv N=>by
    rcases yN.1 N with N|N
    .exact L.2 v (xI N)
    .exact pK _ v N
   have M:=B;rw[<-QT _ _ B.len hi]at M;have al:(((tx0 s).cutX i (blkN sz) sz).uy i).P.length=blkN sz:=hP;let⟨Q,b2,b3,b4,b5,T,b7⟩:=M.wr B.len hi (by simp) (by omega) (b:=blkN (sz:Int)-1) (by omega) ⟨(by rw[zl,Ni,xt,L.1];omega),U⟩;refine⟨_,rfl,rfl,Q,rfl,uP (Mr 256) b4,uP b5 (by show (256:Int)+1<=264;omega),zv T (by show 0+1<=8;omega),zL,⟨_,E _⟩,λj b d r n=>?_⟩;rw[b2 j b d,QT _ _ B.len hi,F j b d];grind
 let⟨y,C,W,yt,yr,y1,y2,y3,y4,⟨P,yn⟩,V⟩:=X;have ac:∀j,y.nodes.getD j zN=if j=i then {s.nodes.getD i zN with P:=P,s:=sz} else s.nodes.getD j zN:=λj=>by grind
 have K:=yt.reGone (g:=srtI (pR (s.nodes.getD i zN).P (blkN sz))) λp h=>by rw[W];exact (λp h=>Dx _ _ p h) p h
 rw[<-C]at K;have u:∀j b,blk (cutT s i (s.nodes.getD i zN) sz) s j b=blk y s j b:=λj b=>by rw[C];rfl
 have e:∀j,(cutT s i (s.nodes.getD i zN) sz).nodes.getD j zN=if j=i then {s.nodes.getD i zN with P:=P,s:=sz} else s.nodes.getD j zN:=λj=>by grind
 have tv:TV (cutT s i (s.nodes.getD i zN) sz) s 8 [i] (upA A i {A i with s:=((cutB (A i).D sz).length),D:=cutB (A i).D sz}):=by
  refine⟨K,⟨⟨by rwa[C],by rwa[C]⟩,by lia,by rwa[C],by lia⟩,λj d=>?_,λj d b r n f=>?_⟩
  .unfold upA;by_cases a:j=i
   .subst a;rw[ze rfl];have Y:(cutT s j (s.nodes.getD j zN) sz).dirD s j=cutB (A j).D sz:=(by refine IP K hs.sec d (by rw[e,ze rfl,o]) λq f=>?_;rw[o]at f;rw[u,V j _ d _ (qf _ (by omega)),show 64*(q / 64)+q%64=q by omega,zb (by omega),m.byteD hs.sec d q];unfold cutB;rw[xE,uK f];rfl);unfold vw;rw[Y,e,ze rfl,o];let⟨Q,b2,b3,b4,_,T,b7,_⟩:=hs.A_at d;lia
   .rw[zb a,<-m.v j d];unfold vw;rw[SZ (x:=tx0 s) d (by grind) (by grind) λb=>by
     apply wV;intro r;rw[u];by_cases n:r<64
     .grind
     .rw[yW (by rw[(yt.blk_ok hs.sec d b).1];omega),yW (by rw[(m.ti.blk_ok hs.sec d b).1];omega)],e,zb a]
    rfl
  .rw[e]at f;rw[u,V j b d r n];by_cases a:j=i
   .lia
   .rw[zb a]at f;rw[zb (by omega)];exact m.z j d b r n f
 have gi:=(g.set hi {A i with s:=((cutB (A i).D sz).length:Int),D:=cutB (A i).D sz} (by lia) (by unfold kW;lia) (λJ=>yi (hk.symm.trans J) (by decide)) (g.pos i hi (by lia)) (λh=>by subst h;exact yi (hk.symm.trans g.root) (by decide))).congr (δ':=λ_=>0) λj _=>by
  lia
 exact⟨⟨hs.pts hi,m.ti.right rfl hi,λ_=>tv.run hs hc (by omega) hs.rows⟩,tv,gi⟩
end
section
variable {x : Tx} {s : Fs} {n c i : Nat} {A : Nat->AN} {T : List Nat} {δ : Nat->Int}
theorem SI.own (x:SI s c A) (g:GI A λ_=>0) (C:c<=1000) (w:i<32) (y:(A i).k≠0) {gg:Int} (z:0<=u/\u<=255) (B:0<=gg/\gg<=255):
 P6 s ((tx0 s).setX i (chgP (s.nodes.getD i zN) u gg))/\TV ((tx0 s).setX i (chgP (s.nodes.getD i zN) u gg)) s 8 [] (upA A i {A i with u:=u,g:=gg})/\GI (upA A i {A i with u:=u,g:=gg}) λ_=>0:=by
 have f:=x.tv [];have a:=f.fld w y;have b:=f.set w (N:=chgP (s.nodes.getD i zN) u gg) rfl rfl (zw ⟨⟨a.1.1,a.1.2.1,a.1.2.2.1,a.1.2.2.2.1,z.1,z.2,B.1,B.2,a.1.2.2.2.2.2.2.2.2⟩,a.2⟩);have e:⟨(chgP (s.nodes.getD i zN) u gg).k,(chgP (s.nodes.getD i zN) u gg).m,(chgP (s.nodes.getD i zN) u gg).u,(chgP (s.nodes.getD i zN) u gg).g,(chgP (s.nodes.getD i zN) u gg).s,(chgP (s.nodes.getD i zN) u gg).l,(chgP (s.nodes.getD i zN) u gg).up,(A i).D⟩={A i with u:=u,g:=gg}:=by obtain⟨n,q,v,t,o,p,h,_⟩:=x.A_at w;unfold chgP;simp only;rw[n,q,o,p,h]
 rw[e]at b;refine⟨b.run x C (by lia) x.rows,b,(g.set w {A i with u:=u,g:=gg} y rfl (λd=>⟨g.dir i w d,g.ok i w d⟩) (g.pos i w y) (λr=>by subst r;exact g.root)).congr λj _=>?_⟩;lia
theorem SI.still (F:SI s c A) {fo:Fo} (E:fo.nd 0=s.fo.nd 0) (G:fo.hs 0=s.fo.hs 0) (H:∀a,1<=a->a<4->Pu fo a) (rows):TV {tx0 s with fo:=fo,rows:=rows} s 0 [] A:=by
 have h:=F.tv [];let⟨⟨x,e⟩,m,w,C,q,B,D⟩:=h.ti;have f:({tx0 s with fo:=fo,rows:=rows}:Tx).pf=(tx0 s).pf:=by funext i b;rw[Tx.pf,E];rfl
 refine⟨⟨⟨x,?_⟩,by rwa[f],w,H,q,B,λj k=>rfl⟩,⟨h.cap.fk,h.cap.g,h.cap.p,h.cap.d⟩,h.v,λj k b r u o=>by have:=h.z j k b r u o;unfold blk at this |-;rwa[f]⟩;rw[f];refine⟨e.k1,e.fk,?_,e.blk,e.nz,e.gn,e.rg,e.sl,λn l=>?_,e.rise,λy t=>yi t oK,e.pd⟩
 .have:=e.root;unfold uB at this |-;rwa[show ({tx0 s with fo:=fo,rows:=rows}:Tx).ow.fo.nd 0=(tx0 s).ow.fo.nd 0 from E]
 .rw[show ({tx0 s with fo:=fo,rows:=rows}:Tx).ow.fo.hs 0=(tx0 s).ow.fo.hs 0 from G];exact e.hs n l
theorem SI.fine (h:SI s c A):∀a,a<4->Pu s.fo a:=λa d=>by
 by_cases e:a=0
 .subst e;refine fine0 h.k1 λj b=>?_;have:=(h.tv []).ti.ndPos (x:=tx0 s) b;have g:(tx0 s).fake=256:=rfl;have:=h.k1;have f:(tx0 s).fo.nd 0 j=s.fo.nd 0 j:=rfl;lia
 .exact (h.tv []).ti.fine a (by lia) d
theorem ZU (f) (k):Pu (delT f k) k:=by
 have a:encT (delT f k) k=encT mR 0:=by
  unfold encT
  congr 1
  funext j
  simp only[nu,delT,Mt];rfl
 refine⟨TK λi _=>?_,?_⟩
 .unfold delT gE;simp
 .rw[badT,Vp,a];have:uf (encT mR 0) (encT mR 0) 0 48=true:=rfl
  lia
theorem SI.snap (u:SI s c A) (v:c<=1000) (t:(uQ s.fo).2.2=0):P6 s {tx0 s with fo:=(uQ s.fo).1}/\TV {tx0 s with fo:=(uQ s.fo).1} s 0 [] A:=by
 have g:=u.fine;have d:TV {tx0 s with fo:=(uQ s.fo).1} s 0 [] A:=by
  unfold uQ at t |-;split at t
  .rename_i o;rw[ze o];unfold W8 at t |-;have e:∀k,1<=k->TV {tx0 s with fo:=putT s.fo k} s 0 [] A:=λk f=>u.still (by unfold putT;simp only;rw[zb (by lia)]) (by unfold putT;simp only;rw[zb (by lia)]) (λa r n=>by
    by_cases b:a=k
    .subst b;have m:encT (putT s.fo a) a=encT s.fo 0:=by
      unfold encT
      congr 1
      funext j
      simp only[nu,putT,Mt]
     let⟨l,q⟩:=g 0 (by lia);refine⟨?_,?_⟩
     .unfold badN putT at *;simp[Mt]at *;exact l
     .unfold badT Vp uB at *
      rw[m];simp only[putT,Mt];exact q
    .exact rh (by unfold putT;simp only;rw[zb b]) (by unfold putT;simp only;rw[zb b]) (g a n)) s.rows
   grind
  .cases t
 exact⟨d.run u v (by lia) u.rows,d⟩
theorem SI.forget (h:SI s c A) (i:c<=1000) (j:1<=k):P6 s {tx0 s with fo:=delT s.fo k}/\TV {tx0 s with fo:=delT s.fo k} s 0 [] A:=by
 have d:TV {tx0 s with fo:=delT s.fo k} s 0 [] A:=h.still (by unfold delT;lia) (by unfold delT;lia) (λa g f=>by
  by_cases b:a=k
  .subst b;exact ZU _ _
  .exact rh (by unfold delT;lia) (by unfold delT;lia) (h.fine a f)) s.rows
 exact⟨d.run h i (by lia) h.rows,d⟩
theorem SI.quota (i:SI s c A) (l:c<=1000) {lim:Int} (j:0<=u/\u<=255) (k: -1<=lim/\lim<=256) (m:PV s.rows u lim=false):(setQ s.rows u lim).length<=20/\ZQ (setQ s.rows u lim)=0/\P6 s {tx0 s with rows:=setQ s.rows u lim}/\TV {tx0 s with rows:=setQ s.rows u lim} s 0 [] A:=by
 have e:=gW i.rows;have h:=CN e.1 m;have d:ZQ (setQ s.rows u lim)=0:=by rw[ZQ,zb (by lia),ze ((jX _).2 (CJ ((jX s.rows).1 e.2) j.1 j.2 k.1 k.2))]
 have b:TV {tx0 s with rows:=setQ s.rows u lim} s 0 [] A:=i.still (fo:=s.fo) rfl rfl (λa _ g=>i.fine a g) _;exact⟨h,d,b.run i l (by lia) d,b⟩
end
def upN (A:Nat->AN) (n:Nat):Nat:=((A n).up-1).toNat
def upI (A:Nat->AN):Nat->Nat->Nat
 | 0,n=>n
 | f+1,n=>if n=0 then 0 else upI A f (upN A n)
structure RI (A:Nat->AN):Prop where
 top:(A 0).up=1
 up:∀n,n<32->n≠0->(A n).k=2->upN A n<32/\(A n).up=(upN A n:Int)+1/\∃e∈kW (A (upN A n)),e.2=(n:Int)+1
 rch:∀n,n<32->(A n).k=2->∃f,upI A f n=0
theorem SR (A):∀f,upI A f 0=0
 | 0=>rfl
 | f+1=>ze rfl
theorem Ty {a:AN} (h:e∈kW a):a.k=2:=by
 unfold kW at h;grind
section
variable {A B : Nat->AN} {n i j : Nat}
theorem RI.par (h:RI A) (b:n<32) (c:n≠0) (d:(A n).k=2):(A (upN A n)).k=2:=have⟨_,_,e,a,_⟩:=h.up n b c d;Ty a
theorem RI.move (h:RI A) (J:(B 0).up=1) (E:n≠0) (F:j<32) (G:(A j).k=2) (H:∀t,upI A t j≠n)
 (hB:∀m,m<32->m≠0->(B m).k=2->m≠n->(A m).k=2/\(B m).up=(A m).up/\∃e∈kW (B (upN A m)),e.2=m+1)
 (I:n<32->(B n).k=2->(B n).up=j+1/\∃e∈kW (B j),e.2=n+1):RI B:=by
 have s:∀m,m<32->m≠0->(B m).k=2->upN B m<32/\(B m).up=(upN B m)+1/\∃e∈kW (B (upN B m)),e.2=m+1:=λm i g l=>by
  by_cases o:m=n
  .subst o;let⟨a,b⟩:=I i l;have e:upN B m=j:=(by unfold upN;lia);grind
  .let⟨a,b,c⟩:=hB m i g l o;let⟨d,e,_⟩:=h.up m i g a;have r:upN B m=upN A m:=(by unfold upN;rw[b]);grind
 have q:∀m,m<32->m≠0->(B m).k=2->(B (upN B m)).k=2:=λm i g l=>have⟨_,_,e,D,_⟩:=s m i g l;Ty D
 -- a chain of A that does not meet n is one of B
 have w:∀f m,m<32->(B m).k=2->(∀t,upI A t m≠n)->upI A f m=0->upI B f m=0:=by
  intro f
  induction f with
  | zero=>exact λ_ _ _ _ h=>h
  | succ f w=>
   intro m i l u p;unfold upI at p |-;split
   .rfl
   .next g=>
    rw[zb g]at p;let⟨a,b,_⟩:=hB m i g l (u 0);have r:upN B m=upN A m:=(by unfold upN;rw[b]);rw[r];refine w _ (h.up m i g a).1 (by rw[<-r];exact q m i g l) (λt=>?_) p;have:=u (t+1);unfold upI at this;lia
 have z:(B n).k=2->n<32->∃f,upI B f n=0:=λl u=>by
  let⟨f,p⟩:=h.rch j F G;have e:upN B n=j:=by have:=(I u l).1;unfold upN;lia
  have v:(B j).k=2:=by rw[<-e];exact q n u E l
  refine⟨f+1,?_⟩;rw[upI,zb E,e];grind
 have y:∀f m,m<32->(B m).k=2->upI A f m=0->∃f,upI B f m=0:=by
  intro f
  induction f with
  | zero=>exact λm _ _ p=>⟨0,p⟩
  | succ f y=>
   intro m i l p;by_cases o:m=n
   .grind
   .by_cases g:m=0
    .subst g;exact⟨0,rfl⟩
    .unfold upI at p;rw[zb g]at p;let⟨a,b,_⟩:=hB m i g l o;have r:upN B m=upN A m:=(by unfold upN;rw[b]);let⟨C,x⟩:=y _ (h.up m i g a).1 (by grind) p;refine⟨C+1,?_⟩;rw[upI,zb g,r];exact x
 refine⟨J,s,λm i l=>?_⟩;by_cases g:m=0
 .subst g;exact⟨0,rfl⟩
 .by_cases o:m=n
  .grind
  .let⟨f,p⟩:=h.rch m i (hB m i g l o).1;exact y f m i l p
theorem RI.stay (h:RI A) (f:(A 0).k=2) (g:(B 0).up=1) (hB:∀m,m<32->m≠0->(B m).k=2->(A m).k=2/\(B m).up=(A m).up/\∃e∈kW (B (upN A m)),e.2=m+1):RI B:=
 h.move g (n:=32) (j:=0) (by lia) (by lia) f (λt=>by rw[SR];lia) (λm a c b _=>hB m a c b) (λd=>yi d (by lia))
theorem RI.chain (h:RI A) (d:(A 0).k=2):∀t m,m<32->(A m).k=2->upI A t m<32/\(A (upI A t m)).k=2
 | 0,_,a,b=>⟨a,b⟩
 | t+1,m,a,b=>by
  unfold upI;split
  .lia
  .next c=>exact RI.chain h d t _ (h.up m a c b).1 (h.par a c b)
theorem OJ (g:GI A δ) (c:i<32) (b:(A i).k=2) (d:vA (A i).D e=0) (f):f∈kW (entA A i e i)↔f∈kW (A i)\/f=e:=by rw[entA,jk,OT (A i) b (mJ (g.ok i c b) d),(oC _).mem_iff];rw[kW,ze b];simp
theorem sA (A) (i) (e) (m):(entA A i e m).k=(A m).k/\(entA A i e m).up=(A m).up/\(m≠i->entA A i e m=A m):=by
 unfold entA upA;lia
theorem rd (A) (i) (a) (m):(leaA A i a m).k=(A m).k/\(leaA A i a m).up=(A m).up/\(m≠i->leaA A i a m=A m):=by
 unfold leaA upA;lia
theorem RI.enter (h:RI A) (g:GI A δ) (p:i<32) (q:(A i).k=2) (r:vA (A i).D e=0):RI (entA A i e):=
 h.stay g.root (by rw[(sA A i e 0).2.1];exact h.top) λm n o c=>by
  let⟨a,b,_⟩:=sA A i e m;rw[a]at c;let⟨_,_,f,j,l⟩:=h.up m n o c;refine⟨c,b,f,?_,l⟩;by_cases d:upN A m=i
  .rw[d]at j |-;exact (OJ g p q r f).2 (zu j)
  .rwa[(sA A i e _).2.2 d]
end
section
variable {A B : Nat->AN} {δ : Nat->Int} {n i j : Nat}
theorem RI.same (h:RI A) (d:(A 0).k=2) (hB:∀m,(B m).k=(A m).k/\(B m).up=(A m).up/\kW (B m)=kW (A m)):RI B:=
 h.stay d ((hB 0).2.1.trans h.top) λm b c a=>by rw[(hB m).1]at a;rw[(hB _).2.2];exact⟨a,(hB m).2.1,(h.up m b c a).2.2⟩
theorem RI.add (h:RI A) (G:(A 0).k=2) {N:AN} (g:GI (upA A n N) δ) (E:i<32) (F:(A i).k=2) (C:(A n).k=0) (I:N.k=2->N.up=i+1) (H:vA (upA A n N i).D e=0) (J:e.2=n+1):RI (entA (upA A n N) i e):=by
 have s:i≠n:=by lia
 have o:upA A n N i=A i:=qH _ _ s;have j:(upA A n N i).k=2:=by rwa[o]
 have q:n≠0:=by lia
 refine h.move ?_ q E F (λt y=>?_) (λm x w c p=>?_) (λB d=>?_)
 .rw[(sA _ i e 0).2.1,qH _ _ (yA q)];exact h.top
 .have:=(h.chain G t i E F).2;lia
 .let⟨a,b,_⟩:=sA (upA A n N) i e m;rw[a,qH _ _ p]at c;rw[qH _ _ p]at b;let⟨_,_,f,r,v⟩:=h.up m x w c;refine⟨c,b,f,?_,v⟩;have u:upN A m≠n:=λz=>by have:=h.par x w c;lia
  by_cases l:upN A m=i
  .rw[l]at r |-;exact (OJ g E j H f).2 (zu (by rwa[o]))
  .rw[(sA _ i e _).2.2 l,qH _ _ u];exact r
 .let⟨a,b,_⟩:=sA (upA A n N) i e n;rw[a,jk]at d;rw[b,jk];exact⟨I d,e,(OJ g E j H e).2 (zw rfl),J⟩
theorem RI.lea_at (h:RI A) (g:GI A δ) (o:i<32) (p:(A i).k=2) (q:e∈kW (A i)) {m:Nat} (r:m<32) (s:m≠0) (l:(A m).k=2) (n:m+1≠e.2):
 ∃f∈kW (leaA A i e.1 (upN A m)),f.2=m+1:=by
 let⟨_,_,f,c,a⟩:=h.up m r s l;refine⟨f,?_,a⟩;by_cases b:upN A m=i
 .rw[b]at c |-;refine (Vs g o p _ f).2 ⟨c,λj=>n ?_⟩;have:=OA ((qO _).1 (g.right o p)).2.2 q c j;lia
 .rwa[(rd A i _ _).2.2 b]
theorem Ya (b:(A n).k=2->(A n).l=1):(oV A n n).k≠2:=by
 rw[oV,jk];split
 .show (0:Int)≠2;lia
 lia
theorem RI.unlink (h:RI A) (g:GI A δ) (u:i<32) (v:(A i).k=2) (w:e∈kW (A i)) (x:n+1=e.2) (s:n≠0) (r:n<32) (t:(A n).k=2->kW (A n)=[]):RI (oV (leaA A i e.1) n):=by
 refine h.stay g.root ?_ λm d o a=>?_
 .rw[ji _ (yA s),(rd A i _ 0).2.1];exact h.top
 .have l:m≠n:=by rintro rfl;refine Ya (A:=leaA A i e.1) (λc=>?_) a;rw[(fq A i e.1 m).1]at c;rw[(fq A i e.1 m).2];exact g.dir m r c
  rw[ji _ l]at a |-;rw[(rd A i _ m).1]at a;let⟨f,p,j⟩:=h.lea_at g u v w d o a (by lia);refine⟨a,(rd A i _ m).2.1,f,?_,j⟩;rw[ji _ (λc=>?_)]
  .exact p
  .let⟨_,_,q,b,_⟩:=h.up m d o a;rw[c,t (by rw[<-c];exact h.par d o a)]at b;cases b
theorem SG (g:GI A δ) (j:i<32) (l:(A i).k=2) {f:En} (m:e∈kW (A i)) {p:Nat} (d:f∈kW (A p)) (h:f.2≠e.2):f∈kW (leaA A i e.1 p):=by
 by_cases a:p=i
 .subst a;refine (Vs g j l _ f).2 ⟨d,λb=>h ?_⟩;rw[OA ((qO _).1 (g.right j l)).2.2 m d b]
 .rwa[(rd A i _ _).2.2 a]
theorem JJ (h:RI A) (g:GI A λ_=>0) (O:i<32) (M:(A i).k=2) (R:j<32) (P:(A j).k=2) (N:e∈kW (A i)) (Q:n+1=e.2)  
 (S:∀m,o=some m->m≠n/\m≠0/\m<32/\(∃f∈kW (A j),f.1=b/\m+1=f.2)/\((A m).k=2->kW (A m)=[])):
 (∀m,(movB A i j e.1 b o m).k=2->(A m).k=2/\(movB A i j e.1 b o m).up=(A m).up/\o≠some m) /\
 (∀m,m<32->m≠0->m≠n->(movB A i j e.1 b o m).k=2->∃f∈kW (movB A i j e.1 b o (upN A m)),f.2=m+1):=by
 cases o with
 | none=>
  refine⟨λm d=>?_,λm H D G d=>?_⟩
  .let⟨a,c,_⟩:=rd A i e.1 m;rw[show movB A i j e.1 b none=leaA A i e.1 from rfl]at d |-;lia
  .rw[show movB A i j e.1 b none=leaA A i e.1 from rfl]at d |-;rw[(rd A i e.1 m).1]at d;let⟨_,_,f,u,p⟩:=h.up m H D d;exact⟨f,SG g O M N u (by lia),p⟩
 | some q=>
  obtain⟨J,K,x,⟨v,F,rfl,w⟩,E⟩:=S q rfl;have y:(leaA A i e.1 j).k=2:=by rw[(fq A i e.1 j).1];exact P
  have B:movB A i j e.1 v.1 (some q)=oV (leaA (leaA A i e.1) j v.1) q:=rfl;rw[B];have s:∀m,(leaA (leaA A i e.1) j v.1 m).k=(A m).k/\(leaA (leaA A i e.1) j v.1 m).l=(A m).l/\(leaA (leaA A i e.1) j v.1 m).up=(A m).up:=λm=>
   ⟨(fq _ j _ m).1.trans (fq A i _ m).1,(fq _ j _ m).2.trans (fq A i _ m).2,(rd _ j _ m).2.1.trans (rd A i _ m).2.1⟩
  have z:∀m,(oV (leaA (leaA A i e.1) j v.1) q m).k=2->m≠q:=λm d r=>by subst r;refine Ya (λr=>?_) d;rw[(s m).1]at r;rw[(s m).2.1];exact g.dir m x r
  refine⟨λm d=>?_,λm H D G d=>?_⟩
  .have t:=z m d;rw[ji _ t]at d |-;grind
  .have t:=z m d;rw[ji _ t,(s m).1]at d;let⟨_,_,f,u,p⟩:=h.up m H D d;refine⟨f,?_,p⟩;rw[ji _ (λr=>(by rw[r]at u;rw[E (Ty u)]at u;cases u))];exact SG (g.leave O M (e:=e) (by unfold kW at N;lia)) R y (SG g O M N F (by lia)) (SG g O M N u (by lia)) (by lia)
theorem RI.moves (h:RI A) (g:GI A λ_=>0) (S:i<32) (P:(A i).k=2) (O:j<32) (N:(A j).k=2) (T:e∈kW (A i)) (U:n+1=e.2)  
 (W:∀m,o=some m->m≠n/\m≠0/\m<32/\(∃f∈kW (A j),f.1=b/\m+1=f.2)/\((A m).k=2->kW (A m)=[]))
 (Q:(A n).k=2->∀t,upI A t j≠n) (R:GI (movB A i j e.1 b o) δ) (M:(movB A i j e.1 b o j).k=2) (V:vA (movB A i j e.1 b o j).D (b,n+1)=0):RI (movA A i j n e.1 b o):=by
 have z:n≠0:=λs=>g.noRoot rfl S T (by lia);have p:∀t,upI A t j≠n:=λt s=>by
  by_cases d:(A n).k=2
  .grind
  .have:=(h.chain g.root t j O N).2;lia
 have l:j≠n:=p 0;let⟨C,L⟩:=JJ h g S P O N T U W;generalize x:movB A i j e.1 b o=q at *
 have B:∀m,m≠n->movA A i j n e.1 b o m=entA q j (b,n+1) m:=λm E=>by
  rw[movA,x];dsimp only;split
  .exact qH _ _ E
  .rfl
 have r:(movA A i j n e.1 b o n).k=(q n).k/\((A n).k=2->(movA A i j n e.1 b o n).up=j+1)/\kW (movA A i j n e.1 b o n)=kW (q n):=by
  rw[movA,x];dsimp only;have H:=(sA q j (b,(n:Int)+1) n).2.2 (yA l);split
  .rw[jk,H];exact⟨rfl,λ_=>rfl,rfl⟩
  lia
 refine h.move ?_ z O N p (λm E J d w=>?_) (λG d=>?_)
 .rw[B 0 (yA z),(sA q j _ 0).2.1];have:=(C 0 ?_).2.1
  .rw[this];exact h.top
  .have:=R.root;lia
 .rw[B m w]at d |-;let⟨a,c,_⟩:=sA q j (b,(n:Int)+1) m;rw[a]at d;let⟨K,I,_⟩:=C m d;let⟨f,u,F⟩:=L m E J w d;refine⟨K,c.trans I,f,?_,F⟩;by_cases y:upN A m=n
  .lia
  .rw[B _ y];by_cases v:upN A m=j
   .rw[v]at u |-;exact (OJ R O M V f).2 (zu u)
   .rwa[(sA q j _ _).2.2 v]
 .rw[r.1]at d;exact⟨r.2.1 (C n d).1,(b,(n:Int)+1),by rw[B j l];exact (OJ R O M V _).2 (zw rfl),rfl⟩
end
section
variable {A : Nat->AN} {s : Fs} {c n i j : Nat}
theorem QU (A):∀a b m,upI A (a+b) m=upI A b (upI A a m)
 | 0,b,m=>by rw[yF];rfl
 | a+1,b,m=>by
  have c:upI A (a+1+b) m=if m=0 then 0 else upI A (a+b) (upN A m):=by rw[show a+1+b=(a+b)+1 by lia];rfl
  have d:upI A (a+1) m=if m=0 then 0 else upI A a (upN A m):=rfl
  rw[c,d];split
  .rw[SR]
  .exact QU A a b _
theorem least {P:Nat->Prop}:∀d,P d->∃e,e<=d/\P e/\∀k,k<e->¬P k
 | d,h=>by
  by_cases b:∃k,k<d/\P k
  .let⟨k,c,a⟩:=b;let⟨e,i,f,g⟩:=least k a;exact⟨e,by lia,f,g⟩
  grind
termination_by d=>d
theorem RI.short (r:RI A) (x:(A 0).k=2) (v:n<32) (w:(A n).k=2):∃d,d<=31/\upI A d n=0:=by
 let⟨f,p⟩:=r.rch n v w;let⟨d,_,l,e⟩:=least (P:=λf=>upI A f n=0) f p;refine⟨d,?_,l⟩;have c:∀a b,a<b->b<d+1->((upI A a n))≠((upI A b n):Int):=λa b s q t=>by
  have i:upI A a n=upI A b n:=by lia
  refine e (a+(d-b)) (by lia) ?_;rw[QU,i,<-QU,show b+(d-b)=d by lia];exact l
 have h:((List.range (d+1)).map λk=>((upI A k n):Int)).Nodup:=by refine wU.2 (Mz (λ{a b} u m g=>?_) List.pairwise_lt_range);exact c a b g (xy.1 m)
 have:=ss h (ys:=(List.range 32).map λj:Nat=>(j:Int)) λz o=>by obtain⟨k,_,rfl⟩:=yd.1 o;exact yd.2 ⟨_,xy.2 (r.chain x k n v w).1,rfl⟩
 grind
theorem K1 (B:SI s c A) (r:RI A) (C:(A 0).k=2) (D:n<32):∀f d m,d<f->m<32->(A m).k=2->upI A d m=0->belN s (n+1) f (m+1)=false->∀t,upI A t m≠n
 | 0,_,_,h,_,_,_,_=>by lia
 | f+1,d,m,z,q,o,j,b=>by
  unfold belN at b;split at b
  .cases b
  .next v=>
   have i:m≠n:=λy=>v (by rw[y]);by_cases a:m=0
   .subst a;intro t;rwa[SR]
   .rw[zb (by lia)]at b;have g:=B.A_at q;have e:(((m:Int)+1)-1).toNat=m:=(by lia);rw[ze (by rw[QC,e,g.1,o];simp;lia),e,g.2.2.2.2.2.2.1]at b;let⟨w,u,_⟩:=r.up m q a o;rw[u]at b;obtain⟨p,rfl⟩:∃p,d=p+1:=⟨d-1,by
     cases d with
     | zero=>exact yi j a
     | succ d=>rfl⟩
    unfold upI at j;rw[zb a]at j;intro t;cases t with
    | zero=>exact i
    | succ t=>
     rw[upI,zb a];exact (K1 B r C D f p _ (by lia) w (r.par q a o) j b) t
theorem SI.bel (i:SI s c A) (r:RI A) (f:(A 0).k=2) (l:n<32) (g:j<32) (e:(A j).k=2) (h:belN s (n+1) 32 (j+1)=false):∀t,upI A t j≠n:=have⟨d,b,a⟩:=r.short f g e;K1 i r f l 32 d j (by lia) g e a h
end
def viewN (N:Nat->List Int) (X:Pn):AN:=⟨X.k,X.m,X.u,X.g,X.s,X.l,X.up,sF N X.P X.s⟩
def pk2L (L:List Pn) (j:Nat):List Int:=oo (L.getD (2*j) zN)++oo (L.getD (2*j+1) zN)
structure fC (N:Nat->List Int) (f:Fo) (t k:Nat) (L:List Pn) (B:Nat->AN):Prop where
 len:L.length=32
 nd:∀j,j<16->N (f.nd t j).toNat=pk2L L j
 fld:∀i,i<32->SX (L.getD i zN)
 own:Yw (f.nd t) L (f.hs t) k
 v:∀i,i<32->viewN N (L.getD i zN)=B i
section
variable {N N' : Nat->List Int} {f g : Fo} {t t' k : Nat} {L : List Pn} {B : Nat->AN} {ow : Int->Option (Nat×Nat)}
theorem Po (a:L.length=32) (b:i<32):L.getD i zN∈L:=by grind
theorem fC.ndHas (h:fC N f t k L B) (c:k<=256) {j:Nat} (b:j<16):f.hs t (f.nd t j).toNat=true:=by have a:=h.own.nds j b;rw[<-h.own.has _ (by lia),mG,xe];exact Mx _ (yd.2 ⟨j,xy.2 b,rfl⟩)
theorem fC.ptHas (h:fC N f t k L B) (g:k<=256) (e:i<32) {p:Int} (c:p∈(L.getD i zN).P) (d:p≠0):f.hs t p.toNat=true:=by have a:=Po h.len e;have b:=(h.own.pts _ a p c).resolve_left d;rw[<-h.own.has _ (by lia),mG,xe];exact MD _ (Np.2 ⟨_,a,yd.2 ⟨p,Mo.2 ⟨c,by lia⟩,rfl⟩⟩)
theorem VX {P:List Int} (h:∀p∈P,p≠0->N' p.toNat=N p.toNat) (s):sF N' P s=sF N P s:=by
 unfold sF;have:P.flatMap (uY N')=P.flatMap (uY N):=by
  clear s
  induction P with
  | nil=>rfl
  | cons p P b=>
   rw[Nm,Nm,b λq a=>h q (xj _ a)]
   congr 1
   unfold uY;grind
 rw[this]
theorem fC.congr (h:fC N f t k L B) (e:k<=256) (l:g.nd t'=f.nd t) (n:g.hs t'=f.hs t) (m:∀p,37<=p->p<k->f.hs t p=true->N' p=N p):fC N' g t' k L B:=by
 refine⟨h.len,λj a=>?_,h.fld,by rw[l,n];exact h.own,λi b=>?_⟩
 .have:=h.own.nds j a;rw[l,m _ (by lia) (by lia) (h.ndHas e a)];exact h.nd j a
 .rw[<-h.v i b];unfold viewN;rw[VX λp c d=>?_];have:=(h.own.pts _ (Po h.len b) p c).resolve_left d;exact m _ (by lia) (by lia) (h.ptHas e b c d)
theorem Uk {P:List Int} {i:Nat} (h:∀b,P.getD b 0≠0->ow (P.getD b 0)=some (i,b)/\0<=P.getD b 0):∀a,a<=P.length->(fA (P.take a)).Nodup/\∀n∈fA (P.take a),∃b,b<a/\ow n=some (i,b)
 | 0,_=>⟨Lx,λn c=>yi c oK⟩
 | a+1,r=>by
  let⟨j,d⟩:=Uk h a (by lia);rw[oY P a (by lia)];have o:P.getD a 0=P[a]:=by rw[zt,zk (by lia)];rfl
  grind
theorem kg (h:∀i b,i<L.length->(L.getD i zN).P.getD b 0≠0->ow ((L.getD i zN).P.getD b 0)=some (i,b)/\0<=(L.getD i zN).P.getD b 0):∀i,i<=L.length->(tV (L.take i)).Nodup/\∀n∈tV (L.take i),∃j b,j<i/\ow n=some (j,b)
 | 0,_=>⟨Lx,λn a=>yi a oK⟩
 | i+1,s=>by
  let⟨m,f⟩:=kg h i (by lia);rw[Q0 L i (by lia)];have l:L.getD i zN=L[i]:=by rw[zt,zk (by lia)];rfl
  let⟨g,d⟩:=Uk (ow:=ow) (P:=L[i].P) (i:=i) (λb k=>by have:=h i b (by lia);rw[l]at this;exact this k) _ zL;grind
theorem own_of {nd:Nat->Int} {hs:Nat->Bool} (N:L.length=32)
 (J:∀j,j<16->ow (nd j)=some (32,j))
 (M:∀i b,i<32->(L.getD i zN).P.getD b 0≠0->ow ((L.getD i zN).P.getD b 0)=some (i,b))
 (O:∀n,n<256->(hs n=true↔(ow n).isSome=true))
 (I:∀p i b,ow p=some (i,b)->(i<32/\(L.getD i zN).P.getD b 0=p\/i=32/\b<16/\nd b=p)/\37<=p/\p<k)
 (K:∀X∈L,X.P.length<=8):Yw nd L hs k:=by
 have r:=kg (L:=L) (ow:=ow) (λi b g d=>by grind) 32 (by lia);rw[zo (by lia)]at r;have z:∀n∈Mi nd 16,∃j,j<16/\ow n=some (32,j):=λn F=>by obtain⟨j,o,rfl⟩:=yd.1 F;grind
 refine⟨wl.2 ⟨?_,r.1,λx E y D=>?_⟩,λi g=>(I _ _ _ (J i g)).2,λX B p c=>?_,λm G=>?_,K⟩
 .refine wU.2 (Mz (λ{a b} f d s A=>?_) (List.nodup_range (n:=16)));grind
 .grind
 .obtain⟨i,g,rfl⟩:=Wx B;let⟨b,d⟩:=Mq.1 c;have w:(L.getD i zN).P.getD b 0=p:=by rw[zt,d];rfl
  grind
 .rw[mG];have:m∈Mi nd 16++tV L↔hs m=true:=by
   rw[O m G];constructor
   .intro h;rcases yN.1 h with h|h
    .let⟨j,_,e⟩:=z m h;rw[e];rfl
    .let⟨j,b,_,e⟩:=r.2 m h;rw[e];rfl
   .intro h;let⟨⟨i,b⟩,e⟩:=Mp.1 h;let⟨u,H⟩:=I _ _ _ e;rcases u with⟨g,c⟩|⟨_,d,c⟩
    .refine MD _ (Np.2 ⟨_,Po N g,yd.2 ⟨m,Mo.2 ⟨?_,by simp;lia⟩,by omega⟩⟩);rw[zt]at c;cases t:(L.getD i zN).P[b]? with
     | none=>rw[t]at c;exact yi c (by show ¬(0:Int)=_;omega)
     | some q=>rw[t]at c;have c:q=m:=c;rw[<-c];exact wQ t
    .exact Mx _ (yd.2 ⟨b,xy.2 d,by rw[c];omega⟩)
  lia
end
theorem SI.live {c:Nat} {A:Nat->AN} (r:SI s c A) (u:∀j,j<16->secE s (s.fo.nd 0 j).toNat=pk2L s.nodes j):fC (secE s) s.fo 0 s.k s.nodes A:=by
 have t:=r.tv [];let⟨ow,f⟩:=t.ti.ex;have o:s.nodes.length=32:=t.ti.len;have g:∀i b,i<32->(tx0 s).pf i b=(s.nodes.getD i zN).P.getD b 0:=λi b d=>ze d;have m:∀b,(tx0 s).pf 32 b=s.fo.nd 0 b:=λb=>rfl;refine⟨o,u,t.ti.nd,own_of (ow:=ow) o (λj h=>?_) (λi b d n=>?_) f.hs (λp i b e=>⟨?_,?_⟩) (λX q=>?_),λi d=>?_⟩
 .rw[<-m];exact f.blk 32 j (zw ⟨rfl,h⟩) (f.nz j h)
 .rw[<-g i b d]at n |-;exact f.blk i b (zu d) n
 .rcases f.sl p i b e with⟨a,l⟩|⟨_,_,a⟩
  .rcases a with a|⟨rfl,a⟩
   .exact zu ⟨a,by rwa[<-g i b a]⟩
   grind
  .exact yi a oK
 .have a:=f.rg p (i,b) e;have l:(tx0 s).ow.fk=256:=rfl;lia
 .obtain⟨i,d,rfl⟩:=t.ti.mem (x:=tx0 s) q;exact fld8 (t.ti.nd i d)
 .exact t.v i d
structure DI (x:Tx) (s:Fs):Prop where
 nd:x.fo.nd=s.fo.nd
 hs:∀t,1<=t->x.fo.hs t=s.fo.hs t
 cl:∀i:Nat,i<32->getZ x.dirty ((i:Int)+1)=none->x.nodes.getD i zN=s.nodes.getD i zN
section
variable {x : Tx} {s : Fs} {i : Nat}
theorem UZ (o) (k):(qz o k).2.fo.nd=o.fo.nd/\∀t,1<=t->(qz o k).2.fo.hs t=o.fo.hs t:=by
 unfold qz;cases pM o.fo k with
 | none=>lia
 | some n=>exact⟨rfl,λt a=>zb (by lia)⟩
theorem jW (o) (k) (p):(ownU o k p).2.fo.nd=o.fo.nd/\∀t,1<=t->(ownU o k p).2.fo.hs t=o.fo.hs t:=by
 unfold ownU;split
 .exact UZ o k
 .split
  .let⟨a,b⟩:=UZ {o with fo:=hasF o.fo (del (o.fo.hs 0) p.toNat)} k;exact⟨a,λt c=>(b t c).trans (zb (by lia))⟩
  lia
theorem lI (k) (D) (y):∀j,(o9 k D y j).ow.fo.nd=y.ow.fo.nd/\∀t,1<=t->(o9 k D y j).ow.fo.hs t=y.ow.fo.hs t
 | 0=>⟨rfl,λ_ _=>rfl⟩
 | j+1=>have⟨a,b⟩:=lI k D y j;have⟨c,d⟩:=jW (o9 k D y j).ow k ((o9 k D y j).P.getD j 0);⟨c.trans a,λt e=>(d t e).trans (b t e)⟩
theorem Cn (s) (x) (Dt) (p k0) (y):∀j,(wrtU s x Dt p k0 y j).ow.fo.nd=y.ow.fo.nd/\∀t,1<=t->(wrtU s x Dt p k0 y j).ow.fo.hs t=y.ow.fo.hs t
 | 0=>⟨rfl,λ_ _=>rfl⟩
 | j+1=>have⟨a,b⟩:=Cn s x Dt p k0 y j;have⟨c,d⟩:=jW (wrtU s x Dt p k0 y j).ow s.k ((wrtU s x Dt p k0 y j).P.getD (k0+j) 0);⟨c.trans a,λt e=>(d t e).trans (b t e)⟩
theorem MT {L M:List Pn} {dr:List (Int×Value)} (h:∀j:Nat,j<32->getZ dr (j+1)=none->L.getD j zN=M.getD j zN) (i:Nat) (N):∀j:Nat,j<32->getZ (putZ dr (i+1) (.bool true)) (j+1)=none->(L.set i N).getD j zN=M.getD j zN:=λj c a=>by
 by_cases b:j=i
 .subst b;rw[NP]at a;cases a
 .rw[qE _ (by lia)]at a;grind
theorem DI.tx0 (s):DI (tx0 s) s:=⟨rfl,λ_ _=>rfl,λ_ _ _=>rfl⟩
abbrev LA:=@DI.tx0
theorem DI.fill (h:DI x s) (k i) (X) (D):DI (x.fillX k i X D) s:=by unfold Tx.fillX;dsimp only;let⟨a,b⟩:=lI k D ⟨x.ow,x.put,X.P.take ((D.length+63) / 64)++List.replicate ((D.length+63) / 64-X.P.length) 0⟩ ((D.length+63) / 64);exact⟨a.trans h.nd,λt c=>(b t c).trans (h.hs t c),MT h.cl i _⟩
theorem DI.set (h:DI x s) (i) (N):DI (x.setX i N) s:=⟨h.nd,h.hs,MT h.cl i N⟩
theorem DI.lea (h:DI x s) (i a):DI (x.leaX s i a) s:=by
 unfold Tx.leaX;split
 .exact h.fill ..
 .exact h
theorem DI.ent (h:DI x s) (i e):DI (x.entX s i e) s:=h.fill ..
theorem DI.drop (h:DI x s) (n):DI (x.dropX s n) s:=by
 have a:=h.set n (Rp (x.nodes.getD n zN));unfold Tx.dropX Tx.freeX;split
 .exact a
 .exact⟨a.nd,a.hs,MT a.cl n _⟩
theorem DI.mov (s) (i j n) (a b) (o):DI (movX s i j n a b o) s:=by
 have d:DI (movT s i j a b o) s:=by
  cases o with
  | none=>exact (LA s).lea ..
  | some m=>exact (((LA s).lea ..).lea ..).drop ..
 have c:DI (movY s i j n a b o) s:=d.ent ..;unfold movX;split
 .exact c.set n _
 .exact c
theorem DI.wrt (s) (i) (X) (p) (Dt):DI (wrtT s i X p Dt) s:=have⟨a,b⟩:=Cn s (Go.Proofs.YtpcedcnjofbgjaaGreatDoor.tx0 s) Dt p (p / 64) ⟨(Go.Proofs.YtpcedcnjofbgjaaGreatDoor.tx0 s).ow,[],X.P++List.replicate ((p+Dt.length+63) / 64-X.P.length) 0⟩ ((p+Dt.length-1) / 64+1-p / 64);⟨a,b,MT (dr:=[]) (λ_ _ _=>rfl) i _⟩
theorem DI.cut (s) (i) (X) (sz):DI (cutT s i X sz) s:=by
 have:(cutY s X sz).ow.fo.nd=s.fo.nd/\∀t,1<=t->(cutY s X sz).ow.fo.hs t=s.fo.hs t:=by
  unfold cutY;split
  .exact⟨rfl,λ_ _=>rfl⟩
  .exact jW _ _ _
 exact⟨this.1,this.2,MT (dr:=[]) (λ_ _ _=>rfl) i _⟩
end
structure SJ (s:Fs) (B:Nat->List Pn×(Nat->AN)):Prop where
 mark:secE s 0=Ng s.k
 head:∀i,i<3->secE s (1+i)=sec (uc s.fo) i
 quot:secE s 4=RK s.rows.length s.rows
 live:(B 0).1=s.nodes
 tree:∀t,t<4->uB s.fo t=true->fC (secE s) s.fo t s.k (B t).1 (B t).2/\(GI (B t).2 λ_=>0)/\RI (B t).2
section
variable {s : Fs} {c n : Nat} {A A' : Nat->AN} {B B' : Nat->List Pn×(Nat->AN)} {x : Tx} {T : List Nat}
theorem Ye (s) (b) {put:List (Int×List Int)} {i:Nat} (d:getZ put ((1+i:Nat))=none):∀j,i<j->(getZ (dfK s b put j) ((1+i:Nat))).getD (secE s (1+i))=sec b i
 | 0,h=>yi h (MA _)
 | j+1,h=>by
  unfold dfK;by_cases a:i=j
  .subst a;split
   .next c=>
    rw[nj s b i (zw (by lia)),d];exact qQ c
   .rw[NP];rfl
  .split
   .exact Ye s b d j (by lia)
   .rw[qE _ (by lia)];exact Ye s b d j (by lia)
theorem dfQ_at (s) (q) (b:getZ put 4=none):(getZ (dfQ s q put) 4).getD (secE s 4)=q:=by
 unfold dfQ;split
 .next a=>rw[b];exact qQ a
 .rw[show ((4:Nat):Int)=4 from rfl,NP];rfl
theorem Il (s) (q) {k:Int} (h:k≠4):getZ (dfQ s q put) k=getZ put k:=by
 unfold dfQ;split
 .rfl
 .rw[show ((4:Nat):Int)=4 from rfl];exact qE _ h _
theorem SJ.mono (h:SJ s B) {s':Fs} (m:s'.k=s.k) (n:s'.fo=s.fo) (o:s'.rows=s.rows) (q:s'.nodes=s.nodes) (l:s.k<=256) (j:∀p,p<s.k->p<5\/37<=p->secE s' p=secE s p) (r:64<=s.k):SJ s' B:=by refine⟨by rw[j 0 (by lia) (by lia),m];exact h.mark,λi g=>by rw[j _ (by lia) (by lia),n];exact h.head i g,by rw[j 4 (by lia) (by lia),o];exact h.quot,by rw[q];exact h.live,λt f c=>?_⟩;rw[n]at c |-;let⟨a,b⟩:=h.tree t f c;rw[m];exact⟨a.congr l rfl rfl λp e d _=>j p d (zw e),b⟩
theorem SJ.sync (h:SJ s B) (d:SI s c A):SJ (ZA s) B:=h.mono (s':=ZA s) rfl rfl rfl rfl d.k1 (λ_ a b=>d.syncE a b) d.k0
theorem SJ.ends (h:SJ s B) (hs:SI s c A) (hc:c<2000) (t:TV x s n T A') (hr:ZQ x.rows=0) (hT:64*T.length+n<=208) (he:endE s x=0) (g:GI A' λ_=>0) (r:RI A')
 (af:x.fo.nd 0=s.fo.nd 0) (ad:∀i:Nat,i<32->getZ x.dirty (i+1)=none->x.nodes.getD i zN=s.nodes.getD i zN) (ae:B' 0=(x.nodes,A'))
 (hσ:∀t,1<=t->t<4->uB x.fo t=true->∃u,u<4/\uB s.fo u=true/\x.fo.nd t=s.fo.nd u/\x.fo.hs t=s.fo.hs u/\B' t=B u):SJ (endS s x) B':=by
 let⟨d1,Y,I,X,_⟩:=t.done hs hc hr hT he;have U:(vi s.k x 16).full=false:=by
  unfold endE at he;lia
 let⟨⟨ow,H⟩,e2,e3,e4,e5,e6,e7,e8⟩:=t.ends U;have hk:=hs.k1;have av:=hs.k0;have S:endS s x=N9 (endT s.k x) s:=by rw[endS,ze he]
 let⟨t1,t2,Z,t4⟩:=hs.at hc (endT s.k x);have d:∀p,p<s.k->p<5\/37<=p->secE (endS s x) p=(getZ (ua (endT s.k x) s) p).getD (secE s p):=λp L ho=>by rw[S,<-Z p L ho];have v:secE (N9 (endT s.k x) s) p=(getZ (qN (tE (endT s.k x) s).todo (ua (endT s.k x) s)) p).getD (sec (tE (endT s.k x) s).dk.N p):=rfl;rw[v,OV _ _ _ (pA (endT s.k x) s H.rise)];cases getZ (ua (endT s.k x) s) (p:Int)<;>rfl
 have l:∀p:Nat,p<37->getZ (endT s.k x).put p=none:=λp L=>by
  cases K:getZ (endT s.k x).put (p:Int) with
  | none=>rfl
  | some D=>
   let⟨a,ha⟩:=Mp.1 (H.pk _ (pU K)).1;have:=H.rg _ _ ha;lia
 have w:(endS s x).fo=(endT s.k x).fo:=by rw[S];rfl
 have z:∀p,37<=p->p<s.k->getZ (endT s.k x).put p=none->secE (endS s x) p=secE s p:=λp v J O=>by rw[d p J (zw v),fT _ _ (by lia),O];rfl
 refine⟨?_,λi hi=>?_,?_,by rw[ae,I],λo ht e=>?_⟩
 .rw[d 0 (by lia) (by lia),fT _ _ (by lia),l 0 (by lia),X];exact h.mark
 .rw[d _ (by lia) (by lia),w];rw[ua,Il _ _ (by lia)];exact Ye s _ (l _ (by lia)) 3 hi
 .rw[d 4 (by lia) (by lia),Y,<-e3];refine dfQ_at s _ ?_;rw[nj _ _ _ (by omega)];grind
 .by_cases h0:o=0
  .subst h0;rw[ae];refine⟨?_,g,r⟩;have V:=d1.live (λj m=>?_)
   .lia
   .have L:=(t.fines U).2 j m;rw[w,d _ (by omega) (by omega),fT _ _ (by omega),rp (by omega),I];cases C:Nt x j with
    | true=>rw[e6 j m C];rfl
    | false=>
     let⟨q1,q2⟩:=e7 j m C;rw[q1,q2];have G:=(h.tree 0 (by omega) (by obtain⟨ap,M⟩:=(hs.tv []).ti.ex;exact M.root)).1.nd j m;rw[h.live]at G;show secE s (x.fo.nd 0 j).toNat=_;rw[af,G];unfold Nt at C;rw[vO]at C;unfold pk2L;rw[ad (2*j) (by omega) (by simp_all),ad (2*j+1) (by omega) (by have:=C.2;rw[show (((2*j+1:Nat):Int)+1)=2*(j:Int)+2 by omega];simp_all)]
  .rw[w]at e |-;let⟨Q,W⟩:=e4 o (by omega);let⟨u,u1,u2,u3,R,u5⟩:=hσ o (by omega) ht (by unfold uB at e |-;grind);let⟨a,b⟩:=h.tree u u1 u2;rw[u5,X];refine⟨a.congr hk (Q.trans u3) (W.trans R) λp v J O=>?_,b⟩;refine z p v J ?_;cases K:getZ (endT s.k x).put (p:Int) with
   | none=>rfl
   | some D=>
    exfalso;have f:=(H.pk _ (pU K)).2.1 (by dsimp only;omega);dsimp only at f;rw[yQ,jx]at f;simp only[vO,sj]at f;have P:(endT s.k x).fo.hs o p=true:=(by rwa[W,R]);have:o=1\/o=2\/o=3:=(by omega);lia
end
theorem u8sTu: prog.underlying 38=some (.slice 5):=rfl
theorem byteTu: prog.underlying 5=some (.int .u8):=rfl
theorem Lh: prog.underlying 9=some .string:=rfl
theorem Yh (l) (h:0<l.length) {v:Value} (e:uM w v l):(convert 38 9 v).run prog w=.ok (.string (tu l)) w:=by
 obtain⟨b,⟨d,_⟩|⟨g,o,c,rfl,a⟩⟩:=e
 .lia
 .exact sC w _ _ _ g o c l.length l rfl u8sTu byteTu Lh a
def nmK (i:Nat):ByteArray:=⟨#[UInt8.ofNat (97+i)]⟩
def nmOf (x:Int):ByteArray:=nmK (pk x 8).toNat
theorem nmK_8: ((List.range 8).all λi=>(tu [97+i]).data==(nmK i).data)=true:=rfl
theorem nmK_ok: ((List.range 8).all λi=>tM (nmK i))=true:=by kernel_rfl
theorem Da (x):∃i:Nat,i<8/\pk x 8=i/\nmOf x=nmK i:=have h:=tX x 8 (by lia) (by lia);⟨(pk x 8).toNat,by lia,by lia,rfl⟩
theorem pP (x):tM (nmOf x)=true:=by let⟨i,a,_,h⟩:=Da x;rw[h];exact xp.1 nmK_ok i (xy.2 a)
theorem jZ (x) (w):Calls prog 22 #[(x:Int)] w (κ w (.string (nmOf x))):=by
 let⟨i,k,a,f⟩:=Da x;rw[f];have b:=tW x 8 w (by lia) (by lia);rw[a]at b;have l:=za b;have n:=zW (97+i) (by lia);have p:IntKind.u8.wrap (97+i)=97+i:=by simp[IntKind.wrap,IntKind.bits,IntKind.signed];lia
 have c:uM (w.alloc (.cells #[.int .u8 (97+i)] 5)) (.slice (some ⟨w.heap.size,0,none⟩) 1 1) [97+i]:=rH rfl (zH) rfl;have g:=Yh [97+(i:Int)] (by show 0<1;lia) c;have d:tu [97+i]=nmK i:=by
  exact ByteArray.ext (by simpa using xp.1 nmK_8 i (xy.2 k))
 rw[d]at g;have h:Hid (Below w w (w.alloc (.cells #[.int .u8 (97+i)] 5))):=zB.alloc zL _;clear b c d a f;go_enter func22,ntmps22;go_wp2_with fail
 refine l.o.mono ?_;rintro e m ⟨rfl,rfl⟩;go_wp2;go_ret;exact⟨rfl,h⟩
def vV (n:Nat):Fo:=⟨λt i=>if t=0/\i<n then ((37+i:Nat)) else 0,λt p=>decide (t=0)&&decide (37<=p)&&decide (p<37+n)⟩
def gY (n:Nat):Fo:=⟨(vV (n+1)).nd,(vV n).hs⟩
theorem IK {f g:Fo} (a:∀t i,f.nd t i=g.nd t i) (b:∀t p,f.hs t p=g.hs t p):f=g:=by
 cases f;cases g
 congr 1
 .funext t i;exact a t i
 grind
theorem Y4: vV 0=mR:=by
 refine IK (λt i=>?_) (λt p=>?_)
 .show (if t=0/\i<0 then _ else (0:Int))=_;rw[zb (by lia)];rfl
 .show (decide (t=0)&&decide (37<=p)&&decide (p<37+0))=_;have:(decide (37<=p)&&decide (p<37+0))=false:=by
   lia
  rw[Bool.and_assoc,this,Bool.and_false];rfl
theorem Gr (n t j) (h:¬(t=0/\j=n)):(vV n).nd t j=(gY n).nd t j:=by
 unfold vV gY;dsimp only[vV];lia
theorem KI (n):(gY n).hs=(vV n).hs:=rfl
theorem nM (n) (f:n<16):(encF (vV n)).setIfInBounds n (.int .i64 ((37+n:Nat)))=encF (gY n):=by
 apply yV;intro i;rw[yH,vX];by_cases d:n=i
 .subst d;rw[ze rfl,ze (by lia)];have a:=uh (gY n) 0 n (by lia) (by lia);rw[uO,yF]at a;rw[a];rw[nu,ze f];show _=some (Value.int .i64 (if 0=0/\n<n+1 then _ else _));lia
 .rw[zb d];by_cases e:i<192
  .have a:=uh (vV n) (i / 48) (i%48) (by lia) (by lia);have c:=uh (gY n) (i / 48) (i%48) (by lia) (by lia);rw[show i / 48*48+i%48=i by lia]at a c;rw[a,c];unfold nu;by_cases b:i%48<16
   .rw[ze b,ze b];rw[Gr n (i / 48) (i%48) (by lia)]
   .rw[zb b,zb b,KI]
  .rw[zY (by rw[vX];lia),zY (by rw[vX];lia)]
def hasG (f:Fo) (s:Nat->Bool):Fo:=⟨f.nd,λk=>if k=0 then s else f.hs k⟩
theorem VN (f) (s):((encF f).toList.take 16++(enc s).toList++(encF f).toList.drop (16+(enc s).size)).toArray=encF (hasG f s):=by
 apply yV;intro i;have d:(enc s).toList.length=32:=by simpa using tO s
 have b:(encF f).toList.length=192:=by simpa using vX f
 have g:∀j,(encF f).toList[j]?=(encF f)[j]? :=λj=>zK;rw[xw,tO];have a:∀f,i<192->(encF f)[i]?=some (nu f (i / 48) (i%48)):=λf l=>by
  have:=uh f (i / 48) (i%48) (by lia) (by lia)
  grind
 by_cases h:i<16
 .rw[zR,zV (by grind),zI,ze h,g,a _ (by lia),a _ (by lia)];unfold nu;rw[ze (by lia),ze (by lia)];rfl
 .by_cases k:i<48
  .rw[zR,zx (by rw[Ni,b];lia),zV (by rw[Ni,b,d];lia),Ni,b,zK,Nx _ _ (by lia),a _ (by lia)];rw[nu,zb (by lia),show i / 48=0 by lia,show min 16 192=16 by lia,show i%48-16=i-16 by lia];rfl
  .rw[zR,zx (by rw[Ni,b];lia),zx (by rw[Ni,b,d];lia),yy,Ni,b,d,g];rw[show 16+32+(i-min 16 192-32)=i by lia];by_cases e:i<192
   .rw[a _ e,a _ e];unfold nu;by_cases c:i%48<16
    .rw[ze c,ze c];rfl
    .rw[zb c,zb c];show _=some (Value.int .u8 (sg (if i / 48=0 then s else f.hs (i / 48)) (i%48-16)));lia
   .rw[zY (by grind),zY (by rw[vX];lia)]
theorem Y5 (n):hasG (gY n) (ins ((gY n).hs 0) (37+n))=vV (n+1):=by
 refine IK (λt i=>rfl) (λt p=>?_);show (if t=0 then ins ((vV n).hs 0) (37+n) else (vV n).hs t) p=(vV (n+1)).hs t p;by_cases a:t=0
 .subst a;rw[ze rfl];unfold ins vV;lia
 .rw[zb a];simp[vV,a]
def qL : List Int:=List.replicate 64 0
def zE (st:Dk):Nat->Dk
 | 0=>st
 | j+1=>pV (zE st j) j qL
def fE (st:Dk) (b:List Int):Nat->Dk
 | 0=>st
 | j+1=>pV (fE st b j) (1+j) (sec b j)
def NR : List Int:=tc 2 493 0 0 0 1 1 []++List.replicate 32 0
def fmtE (st:Dk) (k:Nat):Dk:=RH (pV (pV (fE (zE st k) (uc (vV 16)) 3) 37 NR) 0 (Ng k))
theorem zE_W (st):∀j,(zE st j).W.length<=st.W.length+j
 | 0=>zL
 | j+1=>by have a:=SC (zE st j) j qL;have b:=zE_W st j;show (pV (zE st j) j qL).W.length<=_;lia
theorem fE_W (st) (b):∀j,(fE st b j).W.length<=st.W.length+j
 | 0=>zL
 | j+1=>by have a:=SC (fE st b j) (1+j) (sec b j);have c:=fE_W st b j;show (pV (fE st b j) (1+j) (sec b j)).W.length<=_;lia
theorem Vq: fD (vV 16)=0:=by kernel_rfl
theorem YR: tm 2 493 0 0 0 1 1 []=0:=rfl
theorem gD: (tc 2 493 0 0 0 1 1 []).length=32:=rfl
theorem gU: NR.length=64:=by rfl
theorem IA (n):(Builtin.zeroCells #[.int .u8 0] n).toList=List.replicate n (Value.int .u8 0):=by
 apply oL
 .simp[Builtin.zeroCells]
 .intro i a b;simp[Builtin.zeroCells,nf]
theorem Qs {g n:Nat} {cur:Array Value} {t:TypeId} {D:List Int} (b:w.heap[g]?=some (.cells cur t)) (d:¬F g) (e:cur.toList.take n=u8s D) (f:D.length=n) (o m c) (h:o+m<=n):∀w',yK F w w'->uM w' (.slice (some ⟨g,o,none⟩) m c) ((D.drop o).take m):=λ_w' a=>
 ID (_base:=0) (_c:=0) f ((a.block g (xB b) d).trans b) e o m c h
theorem KS (h:uT w a st k F) (hk:64<=k) (ab:k<=256) (hW:st.W.length<=1000):
 Calls prog 36 #[a] w (ρ () λw'=>Did a (fmtE st k) k F w w'):=by
 have H:=za h;have HF:=za h.fin;have bN:=za (jm h);have d1:decide ((k:Int)<64)=false:=zJ (by omega);have d2:¬((k:Int)<64):=by omega
 have d3:¬(k<64):=by omega
 obtain⟨Z,HZ⟩:=zA (List.replicate 64 (0:Int));have ax:Hid (Z.length=64):=by show _=_;rw[HZ.o];simp
 have cw:∀W,(Instr.makeSlice 38 (.int .i64 64) (.int .i64 64)).run prog W=.ok (.slice (some ⟨W.heap.size,0,none⟩) 64 64) (W.alloc (.cells (u8s Z).toArray 5)):=λW=>by rw[HZ.o];exact Mj 64 64 rfl (by omega) W
 have aZ:Hid (Below w w (w.alloc (.cells (u8s Z).toArray 5))):=zB.alloc zL _;have az:Hid ((w.alloc (.cells (u8s Z).toArray 5)).heap[w.heap.size]?=some (.cells (u8s Z).toArray 5 (0,0))):=zH;have aQ:=za (h.below aZ.o);have aV:=za (jm aQ.o);clear h;go_enter func36,ntmps36;go_wp2_with fail
 refine bN.o.mono ?_;rintro e w' ⟨rfl,rfl⟩;go_wp2_with fail
 refine aV.o.mono ?_;rintro e w1 ⟨rfl,rfl⟩;obtain⟨gz,a0⟩:=zD w.heap.size;rw[a0.o]at az |-;have bo:=za (xB az.o);generalize w.alloc (.cells (u8s Z).toArray 5)=w1 at *
 go_wp2;go_loopw [18] (λG wr=>∃j:Nat,j<=k/\G=.int .i64 j/\Hid (Did a (zE st j) k F w1 wr)) (λG _=>k-(intOf G).toNat)
 .exact⟨0,by omega,rfl,⟨F,aQ.o,λ_ r=>zu r,yK.refl _ _⟩⟩
 .obtain⟨j,hj,rfl,bS⟩:=hrel;obtain⟨M,f,s,m⟩:=bS.o;have a6:¬M gz:=λhc=>by
   rcases s gz hc with h|h
   .have:=HF.o gz h;have:=a0.o;omega
   .have:=bo.o;omega
  have I:¬F gz:=λhc=>by have:=HF.o gz hc;have:=a0.o;omega
  have a9:=(m.block gz bo.o I).trans az.o;by_cases b6:j<k
  .have bg:j<(k:Int):=(by omega);have z:=Qs (n:=64) a9 a6 (by rw[xU,zo (by rw[wd,ax.o];exact zL)]) ax.o 0 64 64 (by omega);rw[vy,zo (by rw[ax.o];exact zL),HZ.o]at z;have D:=za (Zz f j b6 (.slice (some ⟨gz,0,none⟩) 64 64) qL (by simp[qL]) z (by have:=zE_W st j;omega));have HY:Hid (yK F w1 wr/\∀i,M i->F i\/w1.heap.size<=i):=⟨m,s⟩;clear f s m a6 I a9 z;go_wp2_with fail
   refine D.o.mono ?_;rintro e w2 ⟨rfl,O⟩;have bw:Hid (Did a (zE st (j+1)) k F w1 w2):=oM HY.o.1 HY.o.2 O;clear O;go_wp2;go_roundw
   .exact⟨j+1,by omega,by go_num,bw⟩
   .simp[intOf];omega
  .obtain rfl:j=k:=(by omega);have bg:¬j<(j:Int):=(by omega);obtain⟨l,bT⟩:∃x,x=wr:=⟨wr,rfl⟩;subst bT;have HY:Hid (uT l a (zE st j) j M/\(∀i,M i->F i\/w1.heap.size<=i)/\yK F w1 l):=⟨f,s,m⟩;obtain⟨Z0,bq⟩:=zA (encF mR);have bP:Hid (∀w,(zeroValue 85).run prog w=.ok (.agg Z0) w):=(by rw[bq.o];exact forZ);have bC:Hid (Below l l (l.alloc (.cells Z0 85))):=zB.alloc zL _;have ay:Hid ((l.alloc (.cells Z0 85)).heap[l.heap.size]?=some (.cells (encF (vV 0)) 85)):=(by show _=_;rw[Y4,<-bq.o];exact zH);clear f s m a6 I a9;go_wp2_with (refine uo rfl 85 rfl Z0 bP.o ?_)
   obtain⟨b,E⟩:=zD l.heap.size;rw[E.o]at ay |-;generalize l.alloc (.cells Z0 85)=w2 at *
   have bX:Hid ((∀i,M i->i<b)/\b<w2.heap.size):=⟨λi r=>by rw[<-E.o];exact HY.o.1.fin i r,xB ay.o⟩;go_wp2;go_loopw [26] (λG wq=>∃n:Nat,n<=16/\G=.int .i64 n/\Hid (wq.heap[b]?=some (.cells (encF (vV n)) 85))/\Hid (Below b l wq)) (λG _=>16-(intOf G).toNat)
   .exact⟨0,by omega,rfl,ay.o,by show Below _ _ _;rw[<-E.o];exact bC.o⟩
   .obtain⟨n,hn,rfl,au,aX⟩:=hrel;have cg:b<=wr.heap.size:=(by have:=xB au.o;omega);by_cases aG:n<16
    .have bK:(n:Int)<16:=(by omega);obtain⟨R,HR⟩:=zD (encF (vV n));have aa:Hid (R.size=192):=(by show _=_;rw[<-HR.o];exact vX _);have B:=au.o;rw[HR.o]at B;have cn:wr.cell? (b,n)=some (R[n]' (by rw[aa.o];omega)):=(zC B).trans (xx _);have zn:wr.frozen? (b,n)=false:=zF B;obtain⟨cv,bh⟩:∃c,(R[n]' (by rw[aa.o];omega))=c:=⟨_,rfl⟩;rw[bh]at cn;clear bh;obtain⟨R1,t⟩:=zD (encF (gY n));have b0:Hid (R.setIfInBounds n (.int .i64 (37+n))=R1):=by
      show _=_;rw[<-HR.o,<-t.o,<-nM n aG]
      congr 2
     have V:Hid ((wr.setCell (b,n) (.int .i64 (37+n))).heap[b]?=some (.cells R1 85)):=(by show _=_;rw[<-b0.o];exact zT _ _ n _ _ _ B);have bd:Hid (R1.size=192):=(by show _=_;rw[<-t.o];exact vX _);obtain⟨S0,av⟩:=zA (enc ((gY n).hs 0));have aN:Hid (S0.size=32):=(by rw[av.o];exact tO _);have b1:Hid (∀j,j<S0.size->R1[16+j]?=S0[j]?):=(by rw[<-t.o,av.o];have h2:∀j,j<(enc ((gY n).hs 0)).size->(encF (gY n))[16+j]?=(enc ((gY n).hs 0))[j]? :=(by have:=Pg (gY n) 0 (by omega);simpa using this);exact h2);obtain⟨S1,u⟩:=zA (enc (ins ((gY n).hs 0) (37+n)));have al:Hid (S1.size=32):=(by rw[u.o];exact tO _);have be:Hid (S1.all (·.oneCell')=true):=(by rw[u.o];exact Zx _);have bH:Hid (∀W,Calls prog 87 #[.agg S0,(37+n:Int)] W (κ W (.agg S1))):=λW=>(by have:=jT ((gY n).hs 0) (37+(n:Int)) W (by omega) (by omega);rw[show (37+(n:Int)).toNat=37+n by omega]at this;rw[av.o,u.o];exact this);obtain⟨R2,ah⟩:=zD (encF (vV (n+1)));have bG:Hid ((R1.toList.take 16++S1.toList++R1.toList.drop (16+S1.size)).toArray=R2):=(by show _=_;rw[<-t.o,u.o,<-ah.o,<-Y5];exact VN _ _);have bF:Hid (Below b l (wr.setCell (b,n) (.int .i64 (37+n)))):=aX.o.setCell (p:=⟨b,n,none⟩) zL _;clear B
     go_upto_region 14 with fail
     generalize wr.setCell (b,n) (.int .i64 (37+(n:Int)))=w3 at *
     go_wp2_with (refine uU (by kernel_rfl) 81 (.tmp 36) rfl b 16 rfl 85 R1 S0 (0,0) _ V.o b1.o setT rfl (by rw[aN.o];exact setI) ?_)
     refine (bH.o w3).mono ?_;rintro e w4 ⟨rfl,aC⟩;have ak:=za (xV aC V.o);have bk:b<=w3.heap.size:=(by have:=xB V.o;omega);have bO:=za (bF.o.trans (aC.mono bk));clear aC;have bZ:∀(Q:Exit->Act->World->Prop),True:=λ_=>trivial;go_wp2_with (refine rT rfl 81 (.tmp 42) (.tmp 40) rfl b 16 S1 rfl rfl 85 R1 R2 ak.o (by rw[al.o];exact setI) (by rw[al.o,bd.o];omega) be.o bG.o ?_)
     have bi:Hid ((w4.setRow b R2).heap[b]?=some (.cells (encF (vV (n+1))) 85)):=(by show _=_;rw[ah.o];exact ya _ _ _ _ _ _ ak.o);have ad:Hid (Below b l (w4.setRow b R2)):=xd bO.o zL _;go_wp2;go_roundw
     .exact⟨n+1,by omega,by go_num,bi,ad⟩
     .simp[intOf];omega
    .obtain rfl:n=16:=(by omega);obtain⟨R,HR⟩:=zD (encF (vV 16));have aa:Hid (R.size=192):=(by show _=_;rw[<-HR.o];exact vX _);have bW:Hid (wr.heap[b]?=some (.cells R 85)):=(by rw[<-HR.o];exact au.o);have bA:Hid (Calls prog 88 #[.agg R] wr (N8 (vV 16) wr)):=(by rw[<-HR.o];exact QZ _ Vq wr);have ba:Hid (Below l l wr):=(by show Below _ _ _;rw[E.o];exact aX.o);go_wp2_with (refine yI rfl 85 (.tmp 5) rfl b rfl 85 R (0,0) _ bW.o forT rfl (by rw[aa.o];exact forI) ?_)
     refine bA.o.mono ?_;rintro e w5 ⟨v5,rfl,aI,bl⟩;obtain⟨_,⟨_,h0⟩|⟨gP,cP,ap,rfl,bV,br,aL,_,_,aU⟩⟩:=id aI
     .omega
     have ad:=za (zi ba.o bl);have T:Hid (w5.heap[gP]?=some (.cells ap 5)/\ap.toList.take 192=u8s (uc (vV 16))/\192<=cP/\l.heap.size<=gP):=⟨br,by simpa using aU,aL,zv ba.o.size (by omega)⟩;clear aI bl bV br aL aU;have bE:=za (mE 2 493 0 0 0 1 1 (.slice none 0 0) [] w5 ⟨rfl,zu ⟨rfl,_,_,rfl⟩⟩ YR);go_wp2_with fail
     refine bE.o.mono ?_;rintro e w6 ⟨A,rfl,bb,aR,a2⟩;have aK:=za (zi ad.o a2);have L:Hid (w6.heap[A]?=some (.cells (byts (tc 2 493 0 0 0 1 1 [])) 5)/\l.heap.size<=A):=⟨aR,zv ad.o.size bb⟩;have K:=za (xV a2 T.o.1);have b2:=za (HY.o.1.below aK.o);clear bb aR a2;go_wp2;go_loopw [60] (λG wq=>∃n:Nat,n<=3/\G=.int .i64 n/\Hid (Did a (fE (zE st j) (uc (vV 16)) n) j M w6 wq)) (λG _=>3-(intOf G).toNat)
     .exact⟨0,by omega,rfl,⟨M,b2.o,λ_ r=>zu r,yK.refl _ _⟩⟩
     .obtain⟨n,hn,rfl,b4⟩:=hrel;obtain⟨F2,f,s,m⟩:=b4.o;have Y:Hid ((∀i,F2 i->M i\/w6.heap.size<=i)/\yK M w6 wr):=⟨s,m⟩;have U:∀g,l.heap.size<=g->¬M g:=λg hg hc=>(by have:=bX.o.1 g hc;have:=E.o;omega);have ae:∀g,l.heap.size<=g->g<w6.heap.size->¬F2 g:=λg hg c1 hc=>(s g hc).elim (U g hg) (λh=>by omega);have a3:=(m.block gP (xB K.o) (U gP T.o.2.2.2)).trans K.o;by_cases b9:n<3
      .have ch:(n:Int)<3:=(by omega);have z:=Qs (n:=192) a3 (ae gP T.o.2.2.2 (xB K.o)) T.o.2.1 (nn _) (64*n) 64 (cP-64*n) (by omega);have a1:=fE_W (zE st j) (uc (vV 16)) n;have a7:=zE_W st j;have D:=za (Zz f (1+n) (by omega) (.slice (some (gP,64*n)) 64 (cP-64*n)) (sec (uc (vV 16)) n) (by rw[jn (k:=3) (nn _) b9]) z (by omega));have i1:=zW (64*n) (by omega);have i2:=zW (n+1) (by omega);have i3:=zW (64*(n+1)) (by omega);have i4:=zW (1+n) (by omega);have i5:((1+n:Nat))=1+(n:Int):=(by omega);have bx:=T.o.2.2.1;rw[i5]at D;clear f s m U ae a3 z;go_wp2_with fail
       rw[show 64*(n+1)-64*n=64 by omega];refine D.o.mono ?_;rintro e w7 ⟨rfl,bj⟩;have bI:Hid (Did a (fE (zE st j) (uc (vV 16)) (n+1)) j M w6 w7):=oM Y.o.2 Y.o.1 bj;clear bj D;go_wp2;go_roundw
       .exact⟨n+1,by omega,by go_num,bI⟩
       .simp[intOf];omega
      .obtain rfl:n=3:=(by omega);obtain⟨d,b7⟩:∃x,x=wr:=⟨wr,rfl⟩;subst b7;have a4:=(m.block A (xB L.o.1) (U A L.o.2)).trans L.o.1;have cq:=za f;have cf:=za a4;have bn:=ae A L.o.2 (xB L.o.1);obtain⟨i0,u1,u2,u3,u4⟩:=yX R5;have ag:prog.underlying 3=some (.int .i64):=(by kernel_rfl);have aW:=λty=>L1 (P:=prog) d 38 3 ty 5 i0 _ .i64 .i64 u8sT ag u1 u2 (some ⟨A,0,none⟩) 32 32 (u8s (tc 2 493 0 0 0 1 1 [])) (by rw[u3];exact MQ d.drew 1 32 ⟨A,0,none⟩ 32 32 _ (by rw[wd,gD]) (λq v hv=>by have aY:(⟨A,0,none⟩:Addr).add q=⟨A,q,none⟩:=(by unfold Addr.add;split<;>simp_all);rw[aY];show d.drew.cell? _=_;rw[show d.drew.cell? ⟨A,q,none⟩=d.cell? ⟨A,q,none⟩ from rfl,zC a4,<-hv];simp[byts,u8s])) 32 (by omega) (by rw[u3];omega) (by omega) (by omega) (by rw[u4];omega) (by rw[u4];exact growslice_fits_wide (by omega) (by omega));obtain⟨cp,bf⟩:=zD (grownCap d (32+32) 32 5);have aq:64<=cp:=(by rw[<-bf.o];exact MO _ _ _ _);obtain⟨C,HC⟩:=zD ((u8s (tc 2 493 0 0 0 1 1 [])).toArray++Builtin.zeroCells (Value.int .u8 0).cells 32++Builtin.zeroCells (Value.int .u8 0).cells (grownCap d (32+32) 32 5-(32+32)));have bU:Hid (C.toList.take 64=u8s NR):=by
        show _=_;rw[<-HC.o];simp only[Array.toList_append,xU];rw[show (Value.int .u8 0).cells=#[Value.int .u8 0] from rfl,IA,IA];have e1:(u8s (tc 2 493 0 0 0 1 1 [])++List.replicate 32 (Value.int .u8 0)).length=64:=(by rw[zl,wd,gD,xt]);rw[yC (by rw[e1];omega),zo (by rw[e1];omega)];unfold NR;rw[pX]
        congr 1
       have ai:∀ty,(Builtin.append_ #[38,3] ty #[.slice (some ⟨A,0,none⟩) 32 32,(32:Int)]).run prog d=.ok (.slice (some ⟨d.heap.size,0,none⟩) 64 cp) (d.drew.alloc (.cells C 5)):=λty=>(by have:=aW ty;rw[HC.o,bf.o]at this;exact this);have bR:=za ai;clear ai;have ac:Hid (Below d d (d.drew.alloc (.cells C 5))):=(zB.drew).alloc zL _;have b5:Hid ((d.drew.alloc (.cells C 5)).heap[d.heap.size]?=some (.cells C 5)):=zO d.drew _;have a1:=fE_W (zE st j) (uc (vV 16)) 3;have a7:=zE_W st j;have bz:Hid (st.W.length<=1000/\j<=256/\(zE st j).W.length<=st.W.length+j/\(fE (zE st j) (uc (vV 16)) 3).W.length<=(zE st j).W.length+3):=⟨hW,ab,a7,a1⟩;have N:=Qs (F:=F2) (n:=64) b5.o (λhc=>by have:=f.fin _ hc;omega) bU.o gU 0 64 cp (by omega);rw[vy,zo (by rw[gU];exact zL)]at N;have an:=za (Zz (f.below ac.o) 37 (by omega) (.slice (some ⟨d.heap.size,0,none⟩) 64 cp) NR gU N (by omega));have cy:=za (Y.o.2.step (yK.of_below ac.o));clear u1 u2 u3 u4 aW ag N a4 a3 f s m U ae bn a1 a7 aq;go_wp2_with (at_builtin;refine Mv _ rfl _ _ _ _ rfl _ _ rfl rfl _ _ (bR.o _) ?_)
       refine an.o.mono ?_;rintro e X ⟨rfl,F3,f,s,m⟩;have aO:Hid ((∀i,F3 i->F2 i\/d.heap.size<=i)/\yK F2 d X):=⟨λi r=>(s i r).imp id λh=>zv ac.o.size h,(yK.of_below ac.o).trans m λi r=>zu r⟩;have aj:=za f;have aB:=za (jm f);have ar:=za (iY j (by omega) X);clear f s m an;go_wp2_with fail
       refine aB.o.mono ?_;rintro e cx ⟨rfl,rfl⟩;go_wp2_with fail
       refine ar.o.mono ?_;rintro e c3 ⟨bQ,rfl,y⟩;have ao:=za y.below;have J:=y.keep aj.o.fin;have S:=za (Zz (aj.o.below y.below) 0 (by omega) bQ (Ng j) (rz j) J (by have h1:=bz.o;have h2:=SC (fE (zE st j) (uc (vV 16)) 3) 37 NR;omega));clear y J;go_wp2_with fail
       refine S.o.mono ?_;rintro e bL ⟨rfl,F4,f,s,m⟩;have bm:Hid ((∀i,F4 i->F3 i\/X.heap.size<=i)/\yK F3 X bL):=⟨λi r=>(s i r).imp id λh=>zv ao.o.size h,(yK.of_below ao.o).trans m λi r=>zu r⟩;have bB:=za (Tt f);clear f s m S;go_wp2_with fail
       refine bB.o.mono ?_;rintro e bM ⟨rfl,am⟩;have hd:Did a (fmtE st j) j F3 X bM:=oM bm.o.2 bm.o.1 am;have O:=oM aO.o.2 aO.o.1 hd;have aH:=oM Y.o.2 Y.o.1 O;have bc:=oM (yK.of_below aK.o) (λi r=>zu r) aH;have aJ:=oM HY.o.2.2 HY.o.2.1 bc;have aT:=za (oM (yK.of_below aZ.o) (λi r=>zu r) aJ);clear am hd O aH bc aJ;go_wp2;go_ret;exact⟨rfl,aT.o⟩
def LogK (a:Addr) (st:Dk) (k:Nat) (sq:Int) (F:Nat->Prop) (gl:Nat) (w w':World):Prop:=
 ∃F',uT w' a st k F'/\(∀i,F' i->F i\/w.heap.size<=i)/\¬F' gl/\yK F w w'/\w'.heap[gl]?=some (.cells (logR a sq) 178)/\w.heap.size<=gl
theorem Ws {kd:Nat} (l:64<=kd) (m:kd<=256) (h:uT w a st kd F) (n:qC st.N) (o:∀x∈iT st.N,lM kd x) (p:st.W.length<900000):
 Calls prog 80 #[a,(5:Int),(32:Int)] w λe w'=>∃gl,e=.returned (.tuple #[.pointer (some ⟨gl,0,none⟩),()])/\LogK a (Qp st) kd (seqO st.N) F gl w w':=
 (Jx l m h n o p).mono λe w' ⟨gl,d,i,c,f,k,g,j,b⟩=>⟨gl,d,c,f,k,g,j,b,i⟩
theorem Ym: ∃Z PL:Array _,Z.size=198/\PL[0]?=some (0,1)/\PL[1]?=some (1,1)/\PL[2]?=some (2,192)/\PL[3]?=some (194,1)/\PL[4]?=some (195,1)/\PL[5]?=some (196,1)/\PL[6]?=some (197,1) /\
 ∀parts,prog.built 97 parts=Instr.fill (PL[·]?) Z parts:=
 ⟨((prog.info? 97).bind (·.zero)).get!.cells,#[(0,1),(1,1),(2,192),(194,1),(195,1),(196,1),(197,1)],by rfl,rfl,rfl,rfl,rfl,rfl,rfl,rfl,λ_=>by rfl⟩
theorem FE (p l) (fo) (q3 q4) (n3 n4 c3 c4 gd gh):prog.built 97 [(0,.pointer (some p)),(1,.pointer (some l)),(2,.agg (encF fo)),(3,.slice q3 n3 c3),(4,.slice q4 n4 c4),(5,.map (some gd)),(6,.map (some gh))] =
 some (fsR p l fo (.slice q3 n3 c3) (.slice q4 n4 c4) (.map (some gd)) (.map (some gh))):=by
 let⟨Z,a,R,E,z,m,e,g,f,o,s⟩:=Ym;have b:=vX fo;have t:∀i,2<=i->i<194->(encF fo)[i-2]?=some (nu fo ((i-2) / 48) ((i-2)%48)):=λi M W=>by
  have:=uh fo ((i-2) / 48) ((i-2)%48) (by lia) (by lia)
  grind
 generalize encF fo=A at b t |-;let⟨N,Q,B,F⟩:=sE (n:=198) (place:=(a[·]?)) (k:=0) (cells:=Z) (rest:=[(1,.pointer (some l)),(2,.agg A),(3,.slice q3 n3 c3),(4,.slice q4 n4 c4),(5,.map (some gd)),(6,.map (some gh))]) p 0 #[p] rfl E R (by simp);let⟨O,L,u,w⟩:=sE (n:=198) (place:=(a[·]?)) (k:=1) (cells:=N) (rest:=[(2,.agg A),(3,.slice q3 n3 c3),(4,.slice q4 n4 c4),(5,.map (some gd)),(6,.map (some gh))]) l 1 #[l] rfl z Q (by simp);let⟨d,T,I,G⟩:=sE (n:=198) (place:=(a[·]?)) (k:=2) (cells:=O) (rest:=[(3,.slice q3 n3 c3),(4,.slice q4 n4 c4),(5,.map (some gd)),(6,.map (some gh))]) (.agg A) 2 A rfl (by rwa[b]) L (by lia);let⟨c,K,y,H⟩:=sE (n:=198) (place:=(a[·]?)) (k:=3) (cells:=d) (rest:=[(4,.slice q4 n4 c4),(5,.map (some gd)),(6,.map (some gh))]) (q3,n3,c3) 194 #[(q3,n3,c3)] rfl e T (by simp);let⟨P,V,D,h⟩:=sE (n:=198) (place:=(a[·]?)) (k:=4) (cells:=c) (rest:=[(5,.map (some gd)),(6,.map (some gh))]) (q4,n4,c4) 195 #[(q4,n4,c4)] rfl g K (by simp);let⟨U,J,j,v⟩:=sE (n:=198) (place:=(a[·]?)) (k:=5) (cells:=P) (rest:=[(6,.map (some gh))]) (.map (some gd)) 196 #[.map (some gd)] rfl f V (by simp);let⟨Y,X,x,q⟩:=sE (n:=198) (place:=(a[·]?)) (k:=6) (cells:=U) (rest:=[]) (.map (some gh)) 197 #[.map (some gh)] rfl o J (by simp);rw[s];rw[F];rw[w];rw[G];rw[H];rw[h];rw[v];rw[q];rw[Instr.fill];refine zQ some ?_;apply yV;intro i;by_cases S:i<198
 .rw[rP _ _ _ _ _ _ _ _ S];simp[uj,yv,xC,b]at B u I y D j x;rw[x,j,D,y,I,u,B];unfold pZ;grind
 .rw[zY (by lia),zY (by rw[kH];lia)]
theorem Uz {E:List Nd} (h:∀x∈E,x.k=0\/x.l≠0):∀n,Rw E [] n=[]
 | 0=>rfl
 | n+1=>by
  rw[Rw,Uz h n];cases b:E[n]? with
  | none=>rfl
  | some x=>
   have:=h x (wQ b);have c:LV x [] (n+1)=false:=by
    unfold LV;lia
   simp[c]
theorem Ww (h:uT w a st k F) (hk:64<=k) (a2:k<=256) (st') (sq)
 (al:∀W,Below w w W->Calls prog 80 #[a,(5:Int),(32:Int)] W λe w'=>∃gl,e=.returned (.tuple #[.pointer (some ⟨gl,0,none⟩),()])/\LogK a st' k sq F gl W w')
 (hm:sec st.N 0=Ng k) (ax:∀n,n<k->∀x∈sec st'.N n,0<=x/\x<=255) (f) (az:S8 (sec st'.N) f k) (htr:Zl (sec st'.N) (f.nd 0) k) (hq:mn (sec st'.N 4)) (aq:∀X∈RJ (sec st'.N) (f.nd 0) 32,X.k=0\/X.l≠0):
 Calls prog 32 #[a] w
  (λe w'=>∃gf F',e=.returned (.tuple #[.pointer (some ⟨gf,0,none⟩),()])/\FsAt w' gf ⟨st',k,sq,f,jq (sec st'.N 4),RJ (sec st'.N) (f.nd 0) 32,[],[]⟩ F' a/\yK F w w'/\(∀i,F' i->F i\/w.heap.size<=i)):=by
 have H:=za h;have av:=oX h 0 (by omega);rw[hm]at av;have bo:=za av;have aR:=za (λ(W:World) (hW:Below w w W)=>jm (h.below hW));have bm:=za al;have af:=za ax;have bz:=za az;have b3:=za htr;have HQ:=za hq;obtain⟨RL,ai⟩:=zD (jq (sec st'.N 4));have aA:Hid (RL.length<=20):=by show _<=_;rw[<-ai.o];exact (gW HQ.o.2.2.1).1
 rw[ai.o];have aE:=za aq;have d1:decide ((k:Int)<64)=false:=zJ (by omega);have d2:¬((k:Int)<64):=by omega
 have d3:¬(k<64):=by omega
 clear h av al ax az htr hq aq hm;go_enter func32,ntmps32;go_wp2_with fail
 refine bo.o.mono ?_;rintro e w1 ⟨v1,rfl,ah⟩;have ar:=za ah.below;have b9:=za ah.at;clear ah;go_wp2_with fail
 refine (aR.o w1 ar.o).mono ?_;rintro e w2 ⟨rfl,rfl⟩;go_wp2_with fail
 refine (aR.o w1 ar.o).mono ?_;rintro e w2 ⟨rfl,rfl⟩;go_wp2_with fail
 refine (iY k (by omega) w1).mono ?_;rintro e w2 ⟨v2,rfl,J⟩;have bu:=za (zi ar.o J.below);have aj:=za (tF v1 v2 (Ng k) (Ng k) w2 (uq.below b9.o J.below) J.at rfl (by rw[rz];omega));rw[show eqB (Ng k) (Ng k)=true by unfold eqB;simp]at aj;clear J;go_wp2_with fail
 refine aj.o.mono ?_;rintro e w3 ⟨rfl,aH⟩;have ao:=za (zi bu.o aH);clear aH aj;go_wp2_with fail
 refine (bm.o w3 ao.o).mono ?_;rintro e w4 ⟨gl,rfl,F1,y1,y2,y3,y4,y5,y6⟩;have HY:Hid ((∀i,F1 i->F i\/w3.heap.size<=i)/\¬F1 gl/\yK F w3 w4/\w4.heap[gl]?=some (.cells (logR a sq) 178)/\w3.heap.size<=gl):=⟨y2,y3,y4,y5,y6⟩;have I:=za y1;have bH:=za (LK y1 af.o);have g:=Wz (LK y1 af.o) (by omega) f bz.o;obtain⟨A,HA⟩:=zD (encF f);rw[HA.o]at g;have aS:Hid (Calls prog 81 #[.iface 26 a] w4 (κ w4 (.tuple #[.agg A,()]))):=g;have aw:Hid (A.size=192):=by rw[<-HA.o];exact vX _
 have bj:Hid (A.all (·.oneCell')=true):=by rw[<-HA.o];exact pS _
 clear y1 y2 y3 y4 y5 y6 g;go_wp2_with fail
 refine aS.o.mono ?_;rintro e C ⟨rfl,aW⟩;have bB:=za aW;clear aW;obtain⟨Z0,aZ⟩:=zA (encF mR);have b5:Hid (∀w,(zeroValue 85).run prog w=.ok (.agg Z0) w):=by rw[aZ.o];exact forZ
 have bE:Hid (Z0.size=192):=by rw[aZ.o];exact vX _
 have au:Hid (((C.alloc (.cells Z0 85)).setRow C A).heap[C.heap.size]?=some (.cells A 85)):=ya _ _ _ _ _ _ (zH);have aC:Hid (Below C C ((C.alloc (.cells Z0 85)).setRow C A)):=xd (zB.alloc zL _) zL _
 go_upto_region 10 with (first
  | (refine uo rfl 85 rfl Z0 b5.o ?_)
  | (refine Nl rfl 85 (.tmp 7) (.tmp 48) rfl C A rfl rfl 85 Z0 (zH) (by rw[aw.o];exact forI) (by rw[bE.o,aw.o]) bj.o ?_))
 obtain⟨gF,bl⟩:=zD C.heap.size;have p:=za (zi bB.o aC.o);clear aC;rw[bl.o]at au p |-;generalize (C.alloc (.cells Z0 85)).setRow gF A=w6 at *
 obtain⟨TT,HT⟩:=zA (encT f 0);have bA:Hid (TT.size=48):=by rw[HT.o];exact sf _ _
 have bx:Hid (∀j,j<TT.size->A[0+j]?=TT[j]?):=by
  rw[HT.o,<-HA.o];have h2:∀j,j<(encT f 0).size->(encF f)[0+j]?=(encT f 0)[j]? :=by have:=Rm f 0 (by omega);simpa using this
  exact h2
 have htr:=iB (bH.o.below p.o) f 0 b3.o;rw[<-HT.o]at htr;have V:Hid (Calls prog 48 #[.iface 26 a,.agg TT] w6 (λe w'=>∃v,e=.returned (.tuple #[v,()])/\Tf w6 v (RJ (sec st'.N) (f.nd 0) 32) w')):=htr;clear htr;go_wp2_with (refine uU (by kernel_rfl) 83 (.tmp 56) rfl gF 0 rfl 85 A TT (0,0) _ au.o bx.o underlying83 rfl (by rw[bA.o];exact Od) ?_)
 refine V.o.mono ?_;rintro e w7 ⟨v7,rfl,E,t,Q,ay⟩;obtain⟨L,HL⟩:=zD (RJ (sec st'.N) (f.nd 0) 32);rw[HL.o]at aE t Q;have O:Hid (L.length=32):=by show _=_;rw[<-HL.o];exact qF _ _ _
 have Z:E.length=32:=by rw[Q.1,O.o]
 have am:=za t;have an:=za Q;have aP:=za (zi p.o ay);have bq:=za (xV ay au.o);obtain⟨qn,cn,rfl,bb⟩:=rU t;obtain⟨S,rfl,bk,_⟩:=bb (by rw[O.o];omega);have aV:Hid (w6.heap.size<=S/\S<w7.heap.size):=⟨by omega,(t.lt S rfl).2⟩;rw[O.o]at am |-;clear ay t Q bb bk;have ae:=za (oX (I.o.below aP.o) 4 (by omega));have bn:Hid ((sec st'.N 4).length=64):=jn I.o.lens.2 (by omega);have bF:=za (af.o 4 (by omega));go_wp2_with fail
 refine ae.o.mono ?_;rintro e w8 ⟨v8,rfl,M⟩;have aM:=za (zi aP.o M.below);have aU:=za M.below;have a3:=za (R4 v8 (sec st'.N 4) w8 M.at bF.o (by rw[bn.o];omega));clear M;go_wp2_with fail
 refine a3.o.mono ?_;rintro e c (⟨_,u,rfl,hu,ak⟩|⟨bh,_⟩);case inr=>exact yi HQ.o bh
 have bp:=za (zi aM.o ak);have B:=za (zi aU.o ak);rw[ai.o]at hu;obtain⟨qr,cr,rfl,_⟩:=rU hu;obtain⟨nr,ag⟩:=zD RL.length;rw[ag.o]at hu;rw[ag.o];have ba:=za hu;have bw:=za (xV B.o bq.o);clear ak hu a3 ae V;have a7:∀W,(Instr.makeMap 90 none).run prog W=.ok (.map (some W.heap.size)) (W.alloc (.map #[] 0)):=λ_=>rfl;have aK:∀W,(Instr.makeMap 95 none).run prog W=.ok (.map (some W.heap.size)) (W.alloc (.map #[] 0)):=λ_=>rfl;obtain⟨bt,cd⟩:=zD c.heap.size;obtain⟨R,HR⟩:=zD (fsR a (gl,()) f (qr,nr,cr) (.slice (some ⟨S,0,none⟩) 32 cn) (.map (some c.heap.size)) (.map (some (c.heap.size+1))));have b1:Hid (prog.built 97 [(0,.pointer (some a)),(1,.pointer (some ⟨gl,0,none⟩)),(2,.agg A),(3,.slice qr nr cr),(4,.slice (some ⟨S,0,none⟩) 32 cn),(5,.map (some c.heap.size)),(6,.map (some (c.heap.size+1)))]=some R):=by show _=_;rw[<-HA.o,<-HR.o];exact FE a ⟨gl,0,none⟩ f qr (some ⟨S,0,none⟩) nr 32 cr cn _ _
 go_wp2_with (first
  | (refine yI rfl 85 (.tmp 7) rfl gF rfl 85 A (0,0) _ bw.o forT rfl (by rw[aw.o];exact forI) ?_)
  | (refine tQ rfl λK hK=>RY 97 _ rfl #[(0,.pointer (some a)),(1,.pointer (some ⟨gl,0,none⟩)),(2,.agg A),(3,.slice qr nr cr),(4,.slice (some ⟨S,0,none⟩) 32 cn),(5,.map (some c.heap.size)),(6,.map (some (c.heap.size+1)))] (by simp only[uu,yB,vS,Act.eval];rfl) R b1.o (hK _ _ ?_))
  | (refine tQ rfl λK hK=>V7 97 (.tmp 83) rfl R rfl (hK _ _ ?_)))
 have ac:Hid (Below c c (((c.alloc (.map #[] 0)).alloc (.map #[] 0)).alloc (.cells R 97))):=((zB.alloc zL _).alloc (by simp) _).alloc (by simp;omega) _;have ap:(c.alloc (.map #[] 0)).heap.size=c.heap.size+1:=by simp
 have D:((c.alloc (.map #[] 0)).alloc (.map #[] 0)).heap.size=c.heap.size+1+1:=by simp
 have a9:Hid ((((c.alloc (.map #[] 0)).alloc (.map #[] 0)).alloc (.cells R 97)).heap[c.heap.size+1+1]?=some (.cells R 97)):=by rw[<-D];exact zH
 have a0:Hid (MapL prog 3 (((c.alloc (.map #[] 0)).alloc (.map #[] 0)).alloc (.cells R 97)) c.heap.size []):=(oI c).of_block ((uW _ _ (by rw[D];omega)).trans (uW _ _ (by rw[ap];omega)));have aF:Hid (MapL prog 3 (((c.alloc (.map #[] 0)).alloc (.map #[] 0)).alloc (.cells R 97)) (c.heap.size+1) []):=by have:=oI (P:=prog) (K:=3) (c.alloc (.map #[] 0));rw[ap]at this;exact this.of_block (uW _ _ (by rw[D];omega))
 have a1:Hid ((((c.alloc (.map #[] 0)).alloc (.map #[] 0)).alloc (.cells R 97)).heap.size=c.heap.size+1+1+1):=by show _=_;simp
 clear ap D a7 aK;generalize ((c.alloc (.map #[] 0)).alloc (.map #[] 0)).alloc (.cells R 97)=b6 at *
 have ab:=za (zi B.o ac.o);have aB:=za (tt am.o ab.o);have m:∀x∈E,x.k=0\/x.l≠0:=λx hx=>by
  obtain⟨i,d,rfl⟩:=Mu.1 hx;have a4:i<L.length:=by rw[<-an.o.1];exact d
  obtain⟨f0,f1,f2,f3,f4,f5,_⟩:=an.o.2 i d a4;rw[f0,f5];exact aE.o _ (Nj a4)
 have g:=Gu (.slice (some ⟨S,0,none⟩) 32 cn) (.slice none 0 0) E [] b6 (by rw[Z];exact uq.of_owns aB.o) ⟨rfl,zu ⟨rfl,_,_,rfl⟩⟩ (by omega) (by simp);rw[Uz m]at g;have aI:=za g;clear g m;go_wp2_with fail
 refine aI.o.mono ?_;rintro e b0 ⟨r,rfl,U,T⟩;obtain⟨qx,cx,rfl,_⟩:=rU U;have aT:=za T;clear U T aI;rw[show (([]:List Int).length)=0 from rfl];go_wp2;go_loopw [88] (λiv wq=>iv=.int .i64 0/\wq=b0) (λ_ _=>0)
 .exact⟨rfl,rfl⟩
 .obtain⟨rfl,bv⟩:=hrel;subst bv;go_wp2;go_ret2;have q:=aT.o;have aa:=zi ac.o q;have Y:=zi ab.o q;have s:=zi bp.o aa;have b2:=p.o.size;have bV:w6.heap.size<=w7.heap.size:=by have:=aV.o;omega
  have cc:=B.o.size;have bL:c.heap.size+1+1+1<=wr.heap.size:=by rw[<-a1.o];exact q.size
  have aG:=xB HY.o.2.2.2.1;have hD:=I.o.below s;have z:=I.o.fin;have a5:∀i,(F1 i\/i=gl\/i=c.heap.size+1+1\/i=c.heap.size\/i=c.heap.size+1)->i<w6.heap.size\/w7.heap.size<=i:=λi d=>by
   rcases d with d|rfl|rfl|rfl|rfl
   .exact zu (zr (z i d) b2)
   .exact zu (by omega)
   .exact zw (by omega)
   .exact zw (by omega)
   .exact zw (by omega)
  have b4:∀i,(F1 i\/i=gl\/i=c.heap.size+1+1\/i=c.heap.size\/i=c.heap.size+1)->i<wr.heap.size:=λi d=>by
   rcases d with d|rfl|rfl|rfl|rfl
   .have:=z i d;omega
   .omega
   .omega
   .omega
   .omega
  have aN:=ao.o.size;have ad:=xV q a9.o;rw[<-HR.o]at ad;refine⟨c.heap.size+1+1,λi=>F1 i\/i=gl\/i=c.heap.size+1+1\/i=c.heap.size\/i=c.heap.size+1,rfl,⟨⟨gl,_,_,c.heap.size,c.heap.size+1,E,[],F1,ad,hD,λi d=>zu d,HY.o.2.1,xV s HY.o.2.2.2.1,zw (zu rfl),?_,?_,?_,a0.o.of_block (q.block _ a0.o.lt),⟨vr.nil _ _,λy hy=>yi hy oK⟩,zw (zw (zw (zu rfl))),by omega,λhc=>by have:=z _ hc;omega,aF.o.of_block (q.block _ aF.o.lt),zw (zw (zw (zw rfl))),λhc=>by have:=z _ hc;omega⟩,zw (zw (zu rfl)),by rw[HL.o];exact O.o,b4,⟨yh _,λy hy=>yi hy oK⟩,hk,a2,aA.o⟩,?_,λi d=>?_⟩
  .have h8:=aM.o.size;have h1:=iS (G:=λi=>i<w8.heap.size) ba.o (λb hb hc=>by have:=(ba.o.lt b hb).1;omega);have h2:=Q4 (F':=λi=>F1 i\/i=gl\/i=c.heap.size+1+1\/i=c.heap.size\/i=c.heap.size+1) h1 (yK.of_below aa) λi d=>by
    rcases d with d|rfl|rfl|rfl|rfl
    .exact zu (zr (z i d) h8)
    .exact zu (zr aG h8)
    .exact zw (by omega)
    .exact zw (by omega)
    .exact zw (by omega)
   refine h2.mono λW hh=>?_;show uq W (qr,nr,cr) 2 RL.length (qP RL);rw[ag.o];exact uq.of_owns hh
  .have h1:=iS (G:=λi=>i<w6.heap.size) am.o (λb hb=>by injection hb with hb;rw[<-hb];have:=aV.o.1;show ¬(S<_);omega);have h2:=Q4 h1 (yK.of_below Y) a5;rw[Z];exact h2.mono λ_ hh=>uq.of_owns hh
  .rw[HL.o];exact Vr an.o (yK.of_below Y) λi d=>(a5 i d).imp (λh=>zu h) id
  .exact ((yK.of_below ao.o).step HY.o.2.2.1).step (yK.of_below s)
  .rcases d with d|rfl|rfl|rfl|rfl
   .exact (HY.o.1 i d).imp id λh=>zv aN h
   .exact zw (zv aN HY.o.2.2.2.2)
   all_goals exact zw (by have:=HY.o.2.2.1.size;omega)
theorem ZM (h:st.fu = -1) (n) (D):(pV st n D).fu = -1/\(pV st n D).N=putS st.N n D:=by rw[pV,zb (by lia)];refine⟨?_,rfl⟩;rw[h];rfl
theorem zE_at (k):∀j,j<=k->(zE (qD k) j).fu = -1/\(zE (qD k) j).N.length=64*k/\∀n,n<k->sec (zE (qD k) j).N n=qL
 | 0,_=>⟨rfl,by show (List.replicate _ _).length=_;simp,λn b=>by
  show sec (List.replicate (64*k) 0) n=qL;rw[sec,qL,List.drop_replicate,List.take_replicate]
  lia⟩
 | j+1,h=>by
  let⟨f,c,g⟩:=zE_at k j (by lia);let⟨e,d⟩:=ZM f j qL;refine⟨e,?_,λn b=>?_⟩
  .show (pV (zE (qD k) j) j qL).N.length=_;rw[d];exact ZF c (by lia) (by simp[qL])
  .show sec (pV (zE (qD k) j) j qL).N n=_;rw[d];by_cases a:n=j
   .subst a;exact sp c b (by simp[qL])
   .rw[Me c (by lia) b (by simp[qL]) a];grind
theorem Ia (k) (p:64<=k) (b) (o:b.length=192):∀j,j<=3->(fE (zE (qD k) k) b j).fu = -1/\(fE (zE (qD k) k) b j).N.length=64*k/\∀n,n<k->sec (fE (zE (qD k) k) b j).N n=if 1<=n/\n<1+j then sec b (n-1) else qL
 | 0,_=>have⟨f,a,g⟩:=zE_at k k zL;⟨f,a,λn d=>by rw[zb (by lia)];exact g n d⟩
 | j+1,m=>by
  let⟨f,a,g⟩:=Ia k p b o j (by lia);have e:(sec b j).length=64:=jn (k:=3) o (by lia);let⟨l,i⟩:=ZM f (1+j) (sec b j);refine⟨l,?_,λn d=>?_⟩
  .show (pV (fE (zE (qD k) k) b j) (1+j) (sec b j)).N.length=_;rw[i];exact ZF a (by lia) e
  .show sec (pV (fE (zE (qD k) k) b j) (1+j) (sec b j)).N n=_;rw[i];by_cases c:n=1+j
   .subst c;rw[sp a d e,ze (by lia),show 1+j-1=j by lia]
   .rw[Me a (by lia) d e c,g n d];lia
def fmtS (k n:Nat):List Int:=if n=0 then Ng k else if n=37 then NR else if 1<=n/\n<4 then sec (uc (vV 16)) (n-1) else qL
theorem VG (k) (o:64<=k) (n) (m:n<k):sec (fmtE (qD k) k).N n=fmtS k n:=by
 let⟨j,d,l⟩:=Ia k o (uc (vV 16)) (nn _) 3 (by lia);let⟨h,c⟩:=ZM j 37 NR;let⟨i,g⟩:=ZM h 0 (Ng k);have b:(pV (fE (zE (qD k) k) (uc (vV 16)) 3) 37 NR).N.length=64*k:=by rw[c];exact ZF d (by lia) gU
 have f:(fmtE (qD k) k).N=putS (putS (fE (zE (qD k) k) (uc (vV 16)) 3).N 37 NR) 0 (Ng k):=by unfold fmtE RH;lia
 rw[f,<-c];unfold fmtS;by_cases e:n=0
 .subst e;rfl
 .rw[zb e,Me b (by lia) m (rz k) e,c];by_cases a:n=37
  .subst a;rw[ze rfl,sp d m gU]
  .rw[zb a,Me d (by lia) m gU a,l n m]
theorem IL (k) (i:64<=k):(fmtE (qD k) k).fu = -1/\(fmtE (qD k) k).W=[]/\(fmtE (qD k) k).N.length=64*k/\(fmtE (qD k) k).S=(fmtE (qD k) k).N:=by
 let⟨f,e,h⟩:=Ia k i (uc (vV 16)) (nn _) 3 (by lia);let⟨d,g⟩:=ZM f 37 NR;let⟨b,c⟩:=ZM d 0 (Ng k);have a:(pV (fE (zE (qD k) k) (uc (vV 16)) 3) 37 NR).N.length=64*k:=by rw[g];exact ZF e (by lia) gU
 rw[fmtE,RH,zb (by lia)];refine⟨?_,rfl,?_,rfl⟩
 .rw[b];rfl
 .rw[c];exact ZF a (by lia) (rz k)
def EB : Pn:=⟨2,493,0,0,0,1,1,[]⟩
def Zk : List Pn:=EB::List.replicate 31 zN
theorem G3: pnOf (half NR 0)=EB:=rfl
theorem Ll (i) (a:i<2):half qL i=List.replicate 32 0:=by
 have:i=0\/i=1:=by lia
 rcases this with rfl|rfl<;>rfl
theorem Jo: pnOf (List.replicate 32 0)=zN:=rfl
theorem J6: encF (foB (uc (vV 16)))=encF (vV 16):=by kernel_rfl
theorem G2: fD (foB (uc (vV 16)))=0:=by kernel_rfl
theorem ZR: uB (vV 16) 0=true:=rfl
theorem U1: uB (vV 16) 1=false/\uB (vV 16) 2=false/\uB (vV 16) 3=false:=⟨by rfl,by rfl,by rfl⟩
theorem lE: NA (half NR 0):=⟨by rfl,by unfold eI;decide,by rfl,by rfl⟩
theorem F0: NA (List.replicate 32 0):=⟨by rfl,by unfold eI;decide,by rfl,by rfl⟩
theorem TR: mn qL:=⟨by rfl,by decide,by rfl,by rfl⟩
theorem FZ: jq qL=[]:=rfl
theorem Ts (k n) (a:n≠0):fmtS k n=fmtS 64 n:=by unfold fmtS;lia
theorem Ps (k n) (h:4<=n) (a:n≠37):fmtS k n=qL:=by rw[fmtS,zb (by lia),zb a,zb (by lia)]
theorem Rv (i) (a:i<16):(vV 16).nd 0 i=((37+i:Nat)):=by show (if 0=0/\i<16 then _ else _)=_;lia
theorem U9 (k) (j) (c:j<32):mL (fmtS k) ((vV 16).nd 0) j=if j=0 then half NR 0 else List.replicate 32 0:=by
 rw[mL,Rv _ (by lia),yQ];by_cases a:j=0
 .subst a;rfl
 .rw[zb a];by_cases b:j=1
  .subst b;rfl
  .rw[Ps k _ (by lia) (by lia)];exact Ll _ (by lia)
theorem Km (k) (b:64<=k):Zl (fmtS k) ((vV 16).nd 0) k:=by
 refine⟨λj a=>?_,λj a=>?_⟩
 .rw[Rv j a];lia
 .rw[U9 k j a];split
  .exact lE
  .exact F0
theorem Kp (k):RJ (fmtS k) ((vV 16).nd 0) 32=Zk:=by
 rfl
theorem U0 (k):ZL (fmtS k)=uc (vV 16):=by
 rfl
theorem GA (k) (g:64<=k):S8 (fmtS k) (vV 16) k:=by
 refine⟨by rw[U0];exact J6,by rw[U0];exact G2,ZR,λt i f e a=>?_⟩;let⟨c,b,d⟩:=U1;have:t=0\/t=1\/t=2\/t=3:=by lia
 rcases this with rfl|rfl|rfl|rfl
 .rw[Rv i e];lia
 .rw[c]at a;cases a
 .rw[b]at a;cases a
 lia
section
variable {N : Nat->List Int} {k : Nat}
theorem Gz (b:64<=k) (a:∀n,n<k->N n=fmtS k n):S8 N (vV 16) k:=by
 have h:=GA k b;have e:ZL N=ZL (fmtS k):=by unfold ZL;grind
 exact⟨by rw[e];exact h.eq,by rw[e];exact h.right,h.root,h.nds⟩
theorem pC (b:64<=k) (a:∀n,n<k->N n=fmtS k n) (j) (c:j<32):mL N ((vV 16).nd 0) j=mL (fmtS k) ((vV 16).nd 0) j:=by unfold mL;rw[Rv _ (by lia),yQ,a _ (by lia)]
theorem Kl (b:64<=k) (c:∀n,n<k->N n=fmtS k n):Zl N ((vV 16).nd 0) k:=have h:=Km k b;⟨h.1,λj a=>by rw[pC b c j a];exact h.2 j a⟩
theorem lN (b:64<=k) (c:∀n,n<k->N n=fmtS k n):RJ N ((vV 16).nd 0) 32=Zk:=by rw[<-Kp k];refine uI λj a=>?_;rw[pC b c j (by grind)]
theorem Y1 (i) (a:i<32):Zk.getD i zN=if i=0 then EB else zN:=by
 unfold Zk;grind
end
def fs0 (k:Nat):Fs:=⟨fmtE (qD k) k,k,0,vV 16,[],Zk,[],[]⟩
theorem NY (k n) (e:k<=256):∀x∈fmtS k n,0<=x/\x<=255:=by
 have b:∀l:List Int,(l.all λx=>decide (0<=x)&&decide (x<=255))=true->∀x∈l,0<=x/\x<=255:=λl h x a=>by grind
 unfold fmtS;split
 .intro x a;rcases ta a with a|rfl
  .rcases ta a with a|rfl
   .exact (b (over (List.replicate 64 0) 0 (bI Dl)) (by rfl)) x a
   .lia
  .lia
 .split
  .exact b _ rfl
  .split
   .next h=> 
    have:n=1\/n=2\/n=3:=(by lia);rcases this with rfl|rfl|rfl<;>exact b _ (by rfl)
   .exact b _ (by rfl)
theorem gm {N:List Int} (d:N.length=64*k) (h:∀n,n<k->qC (sec N n)):qC N:=λx c=>by let⟨q,a⟩:=Mq.1 c;have b:=(zG.1 a).1;refine h (q / 64) (by lia) x (Mq.2 ⟨q%64,?_⟩);rw[sec,Ms (by lia),yy,show 64*(q / 64)+q%64=q by lia];exact a
theorem OI (k:Nat) (hk:64<=k) (aa:k<=256) (w):
 Calls prog 9 #[k] w
  (λe w'=>∃gf a F,e=.returned (.tuple #[.pointer (some ⟨gf,0,none⟩),(a:Addr)])/\FsAt w' gf (fs0 k) F a/\Below w w w'/\(∀i,F i->w.heap.size<=i)):=by
 let⟨Z,P,J,Y⟩:=IL k hk;have b:=VG k hk;have m:sec (fmtE (qD k) k).N 5=qL:=by rw[b 5 (by lia),Ps k 5 (by lia) (by lia)]
 have f:sec (fmtE (qD k) k).N 4=qL:=by rw[b 4 (by lia),Ps k 4 (by lia) (by lia)]
 have j:Pb (fmtE (qD k) k).N=false:=by rw[Pb,hB,m];rfl
 have c:iT (fmtE (qD k) k).N=[]:=by rw[iT,okO,j];rfl
 have q:Qp (fmtE (qD k) k)=fmtE (qD k) k:=by unfold Qp;rw[c];rfl
 have r:seqO (fmtE (qD k) k).N=0:=by unfold seqO;rw[j];rfl
 have s:=gm J λn D=>by rw[b n D];exact NY k n aa
 have l:jq (sec (fmtE (qD k) k).N 4)=[]:=by rw[f];exact FZ
 have I:=za (λ(W:World) (a:Addr) (F:Nat->Prop) (h:uT W a (fmtE (qD k) k) k F)=>Ww h hk aa (fmtE (qD k) k) 0 (λW' B=>by have T:=Ws hk aa (h.below B) s (by rw[c];intro x hx;cases hx) (by rw[P];show 0<900000;lia);rw[q,r]at T;exact T)
  (by rw[b 0 (by lia)];rfl) (λn D=>by rw[b n D];exact NY k n aa) (vV 16) (Gz hk b) (Kl hk b) (by rw[f];exact TR) (by
   rw[lN hk b];intro X t;rcases yZ.1 t with rfl|t
   .right;decide
   .left;rw[wO t];rfl))
 rw[lN hk b,l]at I;clear Z P J Y b m f j c q r s l;go_enter func9,ntmps9;go_wp2_with fail
 refine (za (JG k (k:Int) rfl (by lia) aa w)).o.mono ?_;rintro e w1 ⟨d,F,rfl,u,S,K,v⟩;obtain⟨a,rfl⟩:=u.ptr;have O:=za S;have A:=za K;go_wp2_with fail
 refine (za (KS u hk aa (by simp[qD]))).o.mono ?_;rintro e w2 ⟨rfl,L,M,V,Q⟩;have g:=za (A.o.trans (Q.to_below O A.o.size));have p:Hid (∀i,L i->w.heap.size<=i):=λi C=>(V i C).elim (O i) (λh=>zv A.o.size h);go_wp2_with fail
 refine (za (I w2 a L M)).o.mono ?_;rintro e H ⟨gf,E,rfl,R,G,U⟩;have HX:Hid (FsAt H gf (fs0 k) E a/\Below w w H/\∀i,E i->w.heap.size<=i):=⟨R,g.o.trans (G.to_below p g.o.size),λi C=>(U i C).elim (p i) (λh=>zv g.o.size h)⟩;go_wp2;go_ret2;exact⟨gf,a,E,rfl,HX⟩
theorem EN (v) (D) (w) (h:mU w v D) (Y:D.length<=1000) (p n:Nat) (hn:n<=512) (Z:0<n) (hp:p<=1000000):
 Calls prog 49 #[v,p,n] w (λe w'=>∃v',e=.returned v'/\uM w' v' (oA D p n)/\(∀b,v'.ownBlock=some b->w.heap.size<=b)/\Below w w w'):=by
 let⟨N,c⟩:=zD D.length;obtain⟨q,s,rfl⟩:=Nv h.1 N c;have B:=h.2 q N s rfl;rw[c.o]at Y;by_cases u:N<=p
 .have F:decide (N<=(p:Int))=true:=zX (by lia);have A:N<=(p:Int):=by lia
  have T:Hid (oA D p n=[]):=by show _=_;unfold oA;rw[vd (by rwa[c.o])];simp
  go_enter func49,ntmps49
  go_wp2;go_ret;rw[T.o];exact⟨_,rfl,⟨rfl,zu ⟨rfl,_,_,rfl⟩⟩,λb r=>(by cases r),zB⟩
 .have F:decide (N<=(p:Int))=false:=zJ (by lia);have A:¬N<=(p:Int):=by lia
  have X:=zW (p+n) (by lia);obtain⟨m,t,i⟩:∃m:Nat,min N (p+n)=m/\(m<=N/\m<=p+n/\(m=N\/m=p+n)):=⟨_,rfl,by lia⟩;have d:m-p=min n (N-p):=by lia
  rw[<-t]at d i;have k:0<min n (N-p):=by lia
  have M:p<=m:=by lia
  have K:m<=s:=by lia
  obtain⟨_,⟨V,_⟩|⟨g,o,G,y,z⟩⟩:=id (za h).o.1
  .have:=c.o;lia
  injection y with Q J R;subst Q R;clear J;have l:=za (ZH (g,o+p,(min N (p+n)-p),(s-p)) (oA D p n) w ⟨by rw[wd,vB],zw ⟨g,o+p,s-p,by unfold oA;rw[Ni,Nk,c.o];rw[d],λj x f=>by
   unfold oA at f;rw[ZP,zI]at f;split at f
   .rw[no,yy]at f;have:=z (p+j) x f
    rwa [<-yp]at this
   .cases f⟩⟩ (by unfold oA;rw[Ni,Nk,c.o];lia) (by unfold oA;rw[Ni,Nk,c.o];lia))
  rw[show min N (p+n)=(min (N:Int) ((p:Int)+(n:Int))).toNat by lia]at l;go_enter func49,ntmps49;go_wp2_with fail
  refine l.o.mono ?_;rintro e U ⟨H,rfl,a⟩;have O:Hid (∀b,H.ownBlock=some b->w.heap.size<=b):=by obtain⟨L,W,_,y,C,_⟩:=a;intro b r;rw[y]at r;have P:L=b:=(by simpa[Value.ownBlock]using r);have:=C.1;lia
  go_wp2;go_ret;exact⟨_,rfl,(za a.at).o,O,(za a.below).o⟩
theorem Sq {gf:Nat} (h:FsAt w gf s F a) (aa:Tj s) (i:Nat) (hi:i<32) (X) (hX:s.nodes[i]?=some X) (hk:X.k=1) (hP:Zm X.P s.k) (ae:X.P.length<=8) (hs:0<=X.s/\X.s<=512)
 (p n:Nat) (hn:n<=512) (ag:0<n) (hp:p<=1000000):
 Calls prog 16 #[(gf,()),(i+1:Int),p,n] w
  (λe w'=>∃v,e=.returned (.tuple #[v,()])/\uM w' v (oA (sF (secE s) X.P X.s) p n)/\(∀b,v.ownBlock=some b->w.heap.size<=b)/\Below w w w'):=by
 have j:=za (mo h i hi X hX);rw[hk,zb (by lia),ze rfl]at j;obtain⟨gn,on,cn,N,J,K,I,S,O,e1,e2,e3,e4,Y,e6,e7,L⟩:=sx h i hi X hX;have i1:IntKind.i64.wrap (i+1-1)=i:=by rw[zM _ (by lia)];lia
 have f:=S3 (ks h aa) X.k X.m X.u X.g X.s X.l X.up (N,J,K) X.P L.now ae hP hs.1 hs.2;have c:Hid (Calls prog 50 #[.iface 76 (.agg #[(gf,())]),.agg #[X.k,X.m,X.u,X.g,X.s,X.l,X.up,(N,J,K)]] w
  (λe w'=>∃v',e=.returned v'/\w'.ownsRow (w.heap.size+1) 5 1 v' (sF (secE s) X.P X.s).length (u8s (sF (secE s) X.P X.s))/\Below w w w')):=f
 have t:=mM (secE s) X.P X.s;obtain⟨D,T⟩:=zD (sF (secE s) X.P X.s);rw[T.o]at c t |-;rw[hk]at c O;have G:Hid (D.length<=1000):=za (by lia);have p1:decide ((p:Int)<0)=false:=zJ (by lia);have Z:decide ((n:Int)<0)=false:=zJ (by lia);have U:decide (512<(n:Int))=false:=zJ (by lia);have W:¬((p:Int)<0):=by lia
 have V:¬((n:Int)<0):=by lia
 have p6:¬(512<(n:Int)):=by lia
 have p7:¬(512<n):=by lia
 clear h aa hX hP hs t L f hk;go_enter func16,ntmps16;go_wp2_with fail
 refine j.o.mono ?_;rintro e H ⟨rfl,rfl⟩;go_wp2_with fail
 refine c.o.mono ?_;rintro e H ⟨R,rfl,C,x⟩;have q:=za x;have z:=za (EN R D H ⟨uq.of_owns C,pO C⟩ G p n hn ag hp);clear C x;go_wp2_with fail
 refine z.o.mono ?_;rintro e w2 ⟨M,rfl,d,y,r⟩;have B:=za d;have A:Hid (∀b,M.ownBlock=some b->w.heap.size<=b):=λb Q=>zv q.o.size (y b Q);have E:=za (zi q r);clear d r y;go_wp2;go_ret2;exact⟨M,rfl,B,A,E⟩
