import Derived.Test.YtpcedcnjofbgjaaGreatDoorKB2
import Derived.Test.YtpcedcnjofbgjaaGreatDoorKB9
set_option maxHeartbeats 0
set_option linter.all false
set_option maxRecDepth 100000
namespace Go.Proofs.YtpcedcnjofbgjaaGreatDoor
open Go.RowKit
variable {L:List Pn} {N:Pn} {m:Nat} {o:Ow} {x:Tx}
section
variable {s : Fs} {n c i : Nat} {A : Nat->AN}
theorem SI.node (b:SI s c A) (d:i<32):s.nodes[i]?=some (s.nodes.getD i zN):=by have a:s.nodes.length=32:=(b.tv []).ti.len;grind
end
theorem QM (x):∀j,(sa x j).nodes=x.nodes/\(sa x j).rows=x.rows
 | 0=>⟨rfl,rfl⟩
 | j+1=>by let⟨a,b⟩:=QM x j;exact⟨a,b⟩
theorem gL (k) (x):(endT k x).nodes=x.nodes/\(endT k x).rows=x.rows:=have⟨a,b⟩:=QM (Gg (vi k x 16)) x.gone.length;have⟨c,_,_,_,d⟩:=rx k x 16;⟨a.trans c,b.trans d⟩
theorem Wu (s) (i j n) (a b) (o):(movX s i j n a b o).rows=s.rows:=by
 have c:(movX s i j n a b o).rows=(movT s i j a b o).rows:=by unfold movX movY;split<;>rfl
 rw[c];cases o with
 | none=>exact mr _ _ _ _
 | some m=>exact (Sw _ _ _).trans ((mr _ _ _ _).trans (mr _ _ _ _))
theorem jE (s) (u lim):(rO s u lim).2.nodes=s.nodes/\((rO s u lim).1=0->(rO s u lim).2.rows=setQ s.rows u lim)/\((rO s u lim).1≠0->(rO s u lim).2.rows=s.rows):=by
 unfold rO;split
 .lia
 .unfold endS;dsimp only;split
  .next a=>exact⟨(gL s.k _).1,λ_=>(gL s.k _).2,λh=>yi a h⟩
  lia
def NHn (L:List Pn):Prop:=∀X∈L,X.k=2->∀p∈X.P,p≠0
def NHx (x:Tx):Prop:=NHn x.nodes/\256<=x.fake
theorem UY (k) (h:256<=o.fk):(qz o k).1≠0/\256<=(qz o k).2.fk:=by
 unfold qz;cases a:pM o.fo k with
 | none=>lia
 | some n=>exact⟨by have:=(o8 a).1;lia,h⟩
theorem Jr (k p) (h:256<=o.fk):(ownU o k p).1≠0/\256<=(ownU o k p).2.fk:=by
 unfold ownU;split
 .exact UY k h
 .next a=>
  split
  .exact UY (o:={o with fo:=_}) k h
  lia
theorem lG {y:Uw} (k) (D) (h:256<=y.ow.fk):∀j,256<=(o9 k D y j).ow.fk/\(o9 k D y j).P.length=y.P.length/\∀i,i<j->i<y.P.length->(o9 k D y j).P[i]?≠some 0
 | 0=>⟨h,rfl,λi f=>yi f (MA i)⟩
 | j+1=>by
  let⟨a,b,c⟩:=lG k D h j;have e:=Jr (o:=(o9 k D y j).ow) k ((o9 k D y j).P.getD j 0) a;refine⟨e.2,by show ((o9 k D y j).P.set j _).length=_;rw[xT,b],λi f g=>?_⟩;show ((o9 k D y j).P.set j _)[i]?≠_;grind
theorem NHn.set (h:NHn L) (i) (c:N.k=2->∀p∈N.P,p≠0):NHn (L.set i N):=λX b=>by
 rcases ta b with a|a
 .exact h X a
 .rwa[a]
theorem NHn.at (h:NHn L) (i) (c:(L.getD i zN).k=2):∀p∈(L.getD i zN).P,p≠0:=by
 by_cases a:i<L.length
 .rw[zt,zk a]at c |-;exact h _ (Nj a) c
 .rw[zt,yW (by omega)];exact λp b=>yi b oK
theorem NHx.fill (h:NHx x) (k i) (X) (D):NHx (x.fillX k i X D):=by
 unfold Tx.fillX;dsimp only;let⟨a,b,c⟩:=lG (y:=⟨x.ow,x.put,X.P.take ((D.length+63) / 64)++List.replicate ((D.length+63) / 64-X.P.length) 0⟩) k D h.2 ((D.length+63) / 64);refine⟨h.1.set i λ_ p g=>?_,a⟩;let⟨q,f⟩:=Mq.1 g;grind
theorem NHx.set (h:NHx x) (i) (a:N.k=2->∀p∈N.P,p≠0):NHx (x.setX i N):=⟨h.1.set i a,h.2⟩
theorem NHx.lea (h:NHx x) (s i a):NHx (x.leaX s i a):=by
 unfold Tx.leaX;split
 .exact h.fill ..
 .exact h
theorem NHx.ent (h:NHx x) (s i e):NHx (x.entX s i e):=h.fill ..
theorem NHx.drop (h:NHx x) (s n):NHx (x.dropX s n):=by
 have a:=h.set n (N:=Rp (x.nodes.getD n zN)) (h.1.at n);unfold Tx.dropX Tx.freeX;split
 .exact a
 .exact⟨a.1.set n λb=>(by cases b),a.2⟩
theorem NHn.ends {s:Fs} (h:NHn s.nodes) (a:NHn x.nodes):NHn (endS s x).nodes:=by
 unfold endS;split
 .show NHn (endT s.k x).nodes;rwa[(gL s.k x).1]
 .exact h
section
variable {s : Fs} (h : NHn s.nodes)
include h
theorem Y3: NHx (tx0 s):=⟨h,Mr _⟩
theorem Dc (i) (D) (name) (k m u g) (b):NHn (addM s i D name k m u g b).2.nodes:=by
 unfold addM;split
 .split
  .exact h
  .dsimp only;split
   .exact h.ends ((((Y3 h).set _ (N:=newP k m u g i) λ_ p a=>yi a oK).fill ..).ent ..).1
   .exact h
 .exact h
theorem nh_unl (i) (D) (name):NHn (unlM s i D name).2.nodes:=by
 unfold unlM;dsimp only;split
 .split
  .exact h
  .exact h.ends (((Y3 h).lea ..).drop ..).1
 .exact h
theorem nh_lnk (i n) (D) (name):NHn (lnkM s i n D name).2.nodes:=by
 unfold lnkM;dsimp only
 repeat' split
 all_goals first|exact h|exact h.ends (((Y3 h).set n (N:=ZK (s.nodes.getD n zN)) (h.at n)).ent ..).1
theorem JD (i j n) (a b) (o):NHx (movX s i j n a b o):=by
 have d:NHx (movT s i j a b o):=by
  cases o with
  | none=>exact (Y3 h).lea ..
  | some m=>exact (((Y3 h).lea ..).lea ..).drop ..
 have c:NHx (movY s i j n a b o):=d.ent ..;unfold movX;split
 .exact c.set n (c.1.at n)
 .exact c
theorem Db (i j) (D E) (a b):NHn (movM s i j D E a b).2.nodes:=by
 unfold movM;split
 .unfold movR
  repeat' split
  all_goals first|exact h|exact h.ends (JD h ..).1
 .exact h
theorem nh_wrt (i p) (Dt):NHn (wrtM s i p Dt).2.nodes:=by
 unfold wrtM;dsimp only;split
 .exact h
 split
 .exact h
 next _ b=>
 split
 .exact h
 split
 .exact h
 exact h.ends (h.set i λa=>by have e:(s.nodes.getD i zN).k=2:=a;lia)
theorem nh_cut (i sz):NHn (cutM s i sz).2.nodes:=by
 unfold cutM;dsimp only;split
 .exact h
 split
 .exact h
 next _ b=>
 split
 .exact h
 exact h.ends (h.set i λa=>by lia)
theorem nh_own (i) (u g):NHn (ownM s i u g).2.nodes:=by
 unfold ownM;dsimp only;split
 .exact h
 .exact h.ends ((Y3 h).set i (N:=chgP (s.nodes.getD i zN) u g) (h.at i)).1
theorem JC (u lim):NHn (rO s u lim).2.nodes:=by rwa[(jE s u lim).1]
theorem JB: NHn (ZJ s).2.nodes:=by
 unfold ZJ;split
 .exact h.ends (x:={tx0 s with fo:=_}) h
 .exact h
theorem JE (k):NHn (je s k).2.nodes:=by
 unfold je;split
 .exact h.ends (x:={tx0 s with fo:=_}) h
 .exact h
theorem nh_do (x):NHn (doM s x).2.nodes:=by
 unfold doM;dsimp only;split
 .exact Dc h _ _ _ _ _ _ _ _
 .exact Dc h _ _ _ _ _ _ _ _
 .split
  .exact h
  .exact nh_wrt h _ _ _
 .exact nh_unl h _ _ _
 .exact Db h _ _ _ _ _ _
 .split
  .exact h
  .exact nh_cut h _ _
 .split
  .exact h
  .exact nh_lnk h _ _ _ _
 .unfold symM;split
  .exact h
  .exact Dc h _ _ _ _ _ _ _ _
 .split
  .exact h
  .exact nh_own h _ _ _
 .exact JC h _ _
 .exact h
 .split
  .exact JB h
  .exact JE h _
end
theorem Ik (l):NHn (fB l).nodes:=by
 have:∀(l:List DoI) (s),NHn s.nodes->NHn (l.foldl (λs x=>(doM s x).2) s).nodes:=λl=>by
  induction l with
  | nil=>simp
  | cons x l c=>exact λs h=>c _ (nh_do h x)
 refine this l _ λX b d p a=>?_;rcases yZ.1 b with rfl|b
 .exact yi a oK
 .rw[wO b]at a;exact yi a oK
section
variable {s : Fs} {c i j n : Nat} {A B : Nat->AN} {l lq : List En} {a b : ByteArray} {e : En}
structure Has (A:Nat->AN) (i:Nat) (l:List En):Prop where
 r:ud l=0
 d:(A i).D=layD l
 s:(A i).s=((layD l).length:Int)
theorem L2 (b:l.Perm lq) (h:ud l=0):ud lq=0:=by rw[qO]at h |-;exact⟨by rw[<-b.length_eq];lia,λx a=>h.2.1 x (b.mem_iff.2 a),(b.map _).nodup_iff.1 h.2.2⟩
theorem Has.perm (h:Has A i l) (a:l.Perm lq):Has A i lq:=have e:=SU a h.r;⟨L2 a h.r,h.d.trans e,by rw[h.s,e]⟩
theorem Has.lea (h:Has A i l) (a):Has (leaA A i a) i (l.filter λy=>decide (a≠y.1)):=by
 have b:=PM h.r λy=>decide (a≠y.1);have e:layD (qu (A i).D a)=layD (l.filter λy=>decide (a≠y.1)):=by rw[qu,h.d,ZB h.r];exact (SU ((oC l).symm.filter _) b).symm
 refine⟨b,?_,?_⟩
 .rw[leaA,jk];exact e
 .rw[leaA,jk,<-e]
theorem Has.ent (h:Has A i l) (b:ud (l++[e])=0):Has (entA A i e) i (l++[e]):=by
 have a:layD (outD (A i).D++[e])=layD (l++[e]):=by rw[h.d,ZB h.r];exact (SU ((oC l).symm.append_right [e]) b).symm
 refine⟨b,?_,?_⟩
 .rw[entA,jk];exact a
 .rw[entA,jk,<-a]
theorem Has.leaO (h:Has A j l) (b:j≠i):Has (leaA A i a) j l:=by have:=(rd A i a j).2.2 b;exact⟨h.r,by rw[this];exact h.d,by rw[this];exact h.s⟩
theorem Has.entO (h:Has A j l) (a:j≠i):Has (entA A i e) j l:=by have:=(sA A i e j).2.2 a;exact⟨h.r,by rw[this];exact h.d,by rw[this];exact h.s⟩
theorem Has.mov {k:Nat} (h:Has (entA (movB A i j a b none) j (b,n+1)) k l):Has (movA A i j n a b none) k l:=by
 unfold movA;dsimp only;split
 .refine⟨h.r,?_,?_⟩
  .rw[<-h.d];unfold upA;lia
  .rw[<-h.s];unfold upA;lia
 .exact h
theorem Has.start (d:SI s c A) (g:GI A λ_=>0) (e:i<32) (f:(A i).k=2):Has A i (outD (A i).D):=have⟨_,b,_,a⟩:=su (g.ok i e f);⟨b,a.symm,by rw[a];exact ((d.tv []).len d.sec e).symm⟩
theorem Has.same (h:Has A i l) (a:Has B i l):(B i).D=(A i).D/\(B i).s=(A i).s:=⟨a.d.trans h.d.symm,a.s.trans h.s.symm⟩
theorem Has.mem (h:Has A i l) (f):f∈outD (A i).D↔f∈l:=by rw[h.d,ZB h.r];exact (oC l).mem_iff
theorem Has.put (h:Has A i l) (j:ud (l++[e])=0):vA (A i).D e=0:=by
 have a:=(qO _).1 j;rw[vA,h.d,ZB h.r,O5,zb (by grind),zb,zb]
 .grind
 .intro g;let⟨y,f,c⟩:=xO.1 g;have b:=a.2.2;rw[yo,wl]at b;exact b.2.2 y.1 (yd.2 ⟨y,(oC l).mem_iff.1 f,rfl⟩) e.1 (by simp) (qQ c).symm
theorem entA_f (A) (i) (e) (m):(entA A i e m).k=(A m).k/\(entA A i e m).m=(A m).m/\(entA A i e m).u=(A m).u/\(entA A i e m).g=(A m).g/\(entA A i e m).l=(A m).l/\(entA A i e m).up=(A m).up/\(m≠i->(entA A i e m).s=(A m).s/\(entA A i e m).D=(A m).D):=by
 unfold entA upA;lia
theorem leaA_f (A) (i) (a) (m):(leaA A i a m).k=(A m).k/\(leaA A i a m).m=(A m).m/\(leaA A i a m).u=(A m).u/\(leaA A i a m).g=(A m).g/\(leaA A i a m).l=(A m).l/\(leaA A i a m).up=(A m).up/\(m≠i->(leaA A i a m).s=(A m).s/\(leaA A i a m).D=(A m).D):=by
 unfold leaA upA;lia
theorem Wv (A) (i j n) (a b) (m):(movA A i j n a b none m).k=(A m).k/\(movA A i j n a b none m).m=(A m).m/\(movA A i j n a b none m).u=(A m).u/\(movA A i j n a b none m).g=(A m).g/\(movA A i j n a b none m).l=(A m).l /\
 (movA A i j n a b none m).up=(if m=n/\(A n).k=2 then (j:Int)+1 else (A m).up)/\(m≠i->m≠j->(movA A i j n a b none m).s=(A m).s/\(movA A i j n a b none m).D=(A m).D):=by
 let⟨v,p,w,z,d,E,C⟩:=entA_f (leaA A i a) j (b,(n:Int)+1) m;let⟨x,y,q,r,f,H,G⟩:=leaA_f A i a m;have o:m≠i->m≠j->(entA (leaA A i a) j (b,n+1) m).s=(A m).s/\(entA (leaA A i a) j (b,n+1) m).D=(A m).D:=λF B=>⟨(C B).1.trans (G F).1,(C B).2.trans (G F).2⟩;by_cases c:(A n).k=2
 .have e:movA A i j n a b none=upA (entA (leaA A i a) j (b,n+1)) n {entA (leaA A i a) j (b,n+1) n with up:=j+1}:=ze c;rw[e];by_cases t:m=n
  .subst t;rw[jk];lia
  .rw[qH _ _ t,zb λh=>t h.1];lia
 .have e:movA A i j n a b none=entA (leaA A i a) j (b,n+1):=zb c;simp_all
theorem back_A (hs:SI s c A) (g:GI A λ_=>0) (r:RI A) (hi:i<32) (aa:(A i).k=2) (hj:j<32) (ab:(A j).k=2) (he:e∈outD (A i).D) (hn:n+1=e.2) (hb:∀f∈outD (A j).D,f.1≠b) (hp:vA (leaA A i e.1 j).D (b,n+1)=0):
 vA (leaA (movA A i j n e.1 b none) j b i).D e=0/\(b,(n:Int)+1)∈outD (movA A i j n e.1 b none j).D/\(∀f∈outD (movA A i j n e.1 b none i).D,f.1≠e.1)/\∀m,m<32->movA (movA A i j n e.1 b none) j i n b e.1 none m=A m:=by
 have C:=Has.start hs g hi aa;have P:=Has.start hs g hj ab;have ee:(e.1,(n:Int)+1)=e:=by rw[hn]
 have J:e∈kW (A i):=by unfold kW;lia
 have v:=N4 C.r he;have V:e.1≠b\/i≠j:=by
  grind
 -- the lists behind the first and the second move
 have K:∃F L,Has (movA A i j n e.1 b none) j (F++[(b,(n:Int)+1)])/\Has (movA A i j n e.1 b none) i L/\(∀f∈L,f.1≠e.1)/\Has (leaA (movA A i j n e.1 b none) j b) j F/\Has (leaA (movA A i j n e.1 b none) j b) i ((outD (A i).D).filter λy=>decide (e.1≠y.1))/\(i≠j->F=outD (A j).D):=by
  have B:∀l:List En,(∀f∈l,f.1≠b)->(l++[(b,(n:Int)+1)]).filter (λy=>decide (b≠y.1))=l:=λl hl=>by rw[qh,uL.2 λf q=>by grind];simp
  by_cases o:i=j
  .subst o;have p:=C.lea e.1;have u:ud ((outD (A i).D).filter (λy=>decide (e.1≠y.1))++[(b,(n:Int)+1)])=0:=(by have:=mJ (by rw[p.d];exact iZ p.r) hp;rw[p.d,ZB p.r]at this;exact L2 ((oC _).append_right _) this);have x:Has (movA A i i n e.1 b none) i ((outD (A i).D).filter (λy=>decide (e.1≠y.1))++[(b,(n:Int)+1)]):=(p.ent u).mov;have w:=x.lea b;rw[B _ λf q=>hb f (Mo.1 q).1]at w;grind
  .have p:=C.lea e.1;have u:ud (outD (A j).D++[(b,(n:Int)+1)])=0:=(by rw[(rd A i e.1 j).2.2 (yA o)]at hp;exact mJ (g.ok j hj ab) hp);have x:Has (movA A i j n e.1 b none) j (outD (A j).D++[(b,(n:Int)+1)]):=((P.leaO (yA o)).ent u).mov;have z:Has (movA A i j n e.1 b none) i _:=(p.entO (A:=leaA A i e.1) (e:=(b,(n:Int)+1)) o).mov;have w:=x.lea b;rw[B _ hb]at w;refine⟨_,_,x,z,λf q=>?_,w,z.leaO o,λ_=>rfl⟩;grind
 let⟨F,L,S,k2,Z,R,N,k6⟩:=K;have Q:=L2 (v.trans (Lw e _).symm) C.r;refine⟨N.put Q,(S.mem _).2 (by simp),λf q=>Z f ((k2.mem f).1 q),λm hm=>?_⟩;have h5:Has (movA (movA A i j n e.1 b none) j i n b e.1 none) i (outD (A i).D):=by
  have h7:Has (entA (leaA (movA A i j n e.1 b none) j b) i (e.1,n+1)) i ((outD (A i).D).filter (λy=>decide (e.1≠y.1))++[e]):=by rw[ee];exact N.ent Q
  exact (Has.mov (A:=movA A i j n e.1 b none) (i:=j) (j:=i) (n:=n) (a:=b) (b:=e.1) h7).perm ((Lw e _).trans v.symm)
 have h6:i≠j->Has (movA (movA A i j n e.1 b none) j i n b e.1 none) j (outD (A j).D):=λo=>by rw[k6 o]at R;exact (R.entO (A:=leaA (movA A i j n e.1 b none) j b) (e:=(e.1,(n:Int)+1)) (yA o)).mov
 let⟨a1,a2,a3,a4,a5,a6,M⟩:=Wv A i j n e.1 b m;let⟨T,b2,X,b4,U,W,O⟩:=Wv (movA A i j n e.1 b none) j i n b e.1 m;have E:(movA (movA A i j n e.1 b none) j i n b e.1 none m).D=(A m).D/\(movA (movA A i j n e.1 b none) j i n b e.1 none m).s=(A m).s:=by
  by_cases p:m=i
  .subst p;exact C.same h5
  .by_cases u:m=j
   .subst u;exact P.same (h6 (yA p))
   lia
 have I:(movA (movA A i j n e.1 b none) j i n b e.1 none m).up=(A m).up:=by
  rw[W,(Wv A i j n e.1 b n).1];split
  .next t=>
   obtain⟨rfl,t⟩:=t;have:=(g.upOf r hi J (by rwa[show (e.2-1).toNat=m by omega])).1;rw[show (e.2-1).toNat=m by omega]at this;exact this.symm
  lia
 exact AN.ext (T.trans a1) (b2.trans a2) (X.trans a3) (b4.trans a4) E.2 (U.trans a5) I E.1
theorem WR (p:SI s c A) (r:RI A):∀f m,m<32->(A m).k=2->belN s (n+1) f (m+1)=true->∃t,upI A t m=n
 | 0,_,_,_,h=>by cases h
 | f+1,m,b,e,h=>by
  unfold belN at h;split at h
  .next o=>exact⟨0,by unfold upI;omega⟩
  .split at h
   .cases h
   .next i=>
    have a:m≠0:=(by lia);split at h
    .rw[show (((m:Int)+1)-1).toNat=m by omega,(p.A_at b).2.2.2.2.2.2.1]at h;let⟨l,g,_⟩:=r.up m b a e;rw[g]at h;let⟨t,j⟩:=WR p r f _ l (r.par b a e) h;exact⟨t+1,by rw[upI,zb a];exact j⟩
    .cases h
theorem Lp {t:Nat} (h:upI A (t+1) i=i):∀k,upI A (k*(t+1)) i=i
 | 0=>by rw[uO];rfl
 | k+1=>by rwa[sO,Le,QU,Lp h k]
theorem RI.noLoop (r:RI A) (h:i<32) (j:(A i).k=2) (g:n≠0) (l:upN A n=i) (t):upI A t i≠n:=λa=>by
 have d:upI A (t+1) i=i:=by rw[QU,a];rw[upI,zb g,l];rfl
 let⟨f,c⟩:=r.rch i h j;have b:=Lp d f;have e:f*(t+1)=f+f*t:=by rw[Nat.mul_add,vB,MZ]
 rw[e,QU,c,SR]at b;subst b;rw[SR]at a;lia
theorem IC (h:∀m,m≠n->(B m).up=(A m).up):∀t m,(∀t,upI A t m≠n)->upI B t m=upI A t m
 | 0,_,_=>rfl
 | t+1,m,a=>by
  unfold upI;split
  .rfl
  .next b=>
   have e:upN B m=upN A m:=(by unfold upN;rw[h m (a 0)]);rw[e];refine IC h t _ λt=>?_;have:=a (t+1);unfold upI at this;lia
theorem KJ {o} (h:(movR s i j n a b o).1=0) (e:o≠some n):movE s j n o=0/\vA ((movT s i j a b o).dirD s j) (b,n+1)=0/\endE s (movX s i j n a b o)=0/\(movR s i j n a b o).2=endS s (movX s i j n a b o):=by
 unfold movR at h |-;lia
theorem JI (D E) (h:(movM s i j D E a b).1≠0):(movM s i j D E a b).2=s:=by
 unfold movM movR at h |-
 repeat' split
 all_goals first|rfl|skip
 all_goals simp_all [endS]
theorem LH (x:Tx) (k i) (X) (D) (h:m≠i):(x.fillX k i X D).nodes.getD m zN=x.nodes.getD m zN:=by unfold Tx.fillX;grind
theorem IF (g:m≠i) (h:m≠j):((movX s i j n a b none).nodes.getD m zN).P=(s.nodes.getD m zN).P:=by
 have d:(movY s i j n a b none).nodes.getD m zN=s.nodes.getD m zN:=by
  have f:(movY s i j n a b none).nodes.getD m zN=((tx0 s).leaX s i a).nodes.getD m zN:=LH _ _ _ _ _ h;rw[f];unfold Tx.leaX;split
  .exact LH _ _ _ _ _ g
  .rfl
 unfold movX;split
 .unfold Tx.setX;dsimp only;by_cases c:n=m
  .subst c;rw[<-d];by_cases e:n<(movY s i j n a b none).nodes.length
   .rw[zt,ul e];rfl
   .rw[zt,yW (by rw[xT];omega),zt,yW (by omega)]
  grind
 .rw[d]
theorem CM (N:SI s c A) (g:GI A λ_=>0) (r:RI A) (S:c<=1000) (Q:i<32) (L:(A i).k=2) (R:j<32) (M:(A j).k=2) (T:tM b=true) (O:(rI (dirB s j) b).2.2≠0) (P:(movM s i j (dirB s i) (dirB s j) a b).1=0):
 ∃(e:En) (n:Nat),e∈outD (A i).D/\e.1=a/\n+1=e.2/\n<32/\(∀f∈outD (A j).D,f.1≠b)/\movE s j n none=0/\vA (leaA A i a j).D (b,n+1)=0 /\
  SI (movM s i j (dirB s i) (dirB s j) a b).2 (c+1) (movA A i j n a b none)/\(GI (movA A i j n a b none) λ_=>0)/\RI (movA A i j n a b none)/\(movM s i j (dirB s i) (dirB s j) a b).2.nodes=(movX s i j n a b none).nodes:=by
 rcases N.found g R M b with⟨f,_,_,_,E,_⟩|⟨u,_,_⟩
 .lia
 have C:movO (dirB s j) b=none:=zb O;rcases N.found g Q L a with⟨e,t,rfl,x,p,K,I,J⟩|⟨_,x,p⟩
 .have q:(((e.2-1).toNat))+1=e.2:=by omega
  have B:movM s i j (dirB s i) (dirB s j) e.1 b=movR s i j (e.2-1).toNat e.1 b none:=by unfold movM;lia
  rw[B]at P |-;generalize (e.2-1).toNat=n at *
  let⟨y,z,v,G⟩:=KJ P (by simp);let⟨H,F,w⟩:=N.move g S Q L R M t q (o:=none) (b:=b) (by simp) (λm d=>by cases d) T (λm d=>by cases d);have h:vA (movB A i j e.1 b none j).D (b,n+1)=0:=by rwa[<-F]
  have l:=N.fin g (by omega) (w h).1 (w h).2 (λr=>N.moved g r Q L R M t q (by simp) (λm d=>by cases d) (λm d=>by cases d) y h) (by rw[Wu];exact N.rows) (by simp) (DI.mov s i j n _ _ none).dx;rw[ze v]at l;rw[G];refine⟨e,n,t,rfl,q,by omega,u,y,h,l.1,l.2.1,l.2.2.1 r,?_⟩;rw[endS,ze v];exact (gL s.k _).1
 .unfold movM at P;lia
theorem I3 (L:SI s c A) (g:GI A λ_=>0) (r:RI A) (T:c<=1000) (N:i<32) (K:(A i).k=2) (O:j<32) (J:(A j).k=2) (R:n<32) (P:(b,(n:Int)+1)∈outD (A j).D) (U:tM a=true) (S:∀f∈outD (A i).D,f.1≠a) (M:(A n).k=2->∀t,upI A t i≠n) (Q:vA (leaA A j b i).D (a,n+1)=0):
 (rI (dirB s j) b).1=n+1/\(rI (dirB s j) b).2.2=0/\(((movM s j i (dirB s j) (dirB s i) b a).1=6\/(movM s j i (dirB s j) (dirB s i) b a).1=16)\/(movM s j i (dirB s j) (dirB s i) b a).1=0/\SI (movM s j i (dirB s j) (dirB s i) b a).2 (c+1) (movA A j i n b a none)/\(movM s j i (dirB s j) (dirB s i) b a).2.nodes=(movX s j i n b a none).nodes):=by
 have q:(rI (dirB s j) b).1=n+1/\(rI (dirB s j) b).2.2=0:=by
  rcases L.found g O J b with⟨e,d,l,G,z,_⟩|⟨d,_⟩
  .have:=OA ((qO _).1 (by have:=g.right O J;unfold kW at this;rw[ze J]at this;exact this)).2.2 d P l;subst this;exact⟨G,z⟩
  grind
 refine⟨q.1,q.2,?_⟩;have E:movO (dirB s i) a=none:=by
  rcases L.found g N K a with⟨e,d,l,_⟩|⟨_,_,d⟩
  .grind
  .exact zb (by omega)
 have C:movM s j i (dirB s j) (dirB s i) b a=movR s j i n b a none:=by unfold movM;grind
 have u:movE s i n none=0:=by unfold movE;rw[zb];rintro ⟨d,l⟩;rw[(L.A_at R).1]at d;let⟨t,y⟩:=WR L r 32 i N K l;grind
 let⟨I,H,v⟩:=L.move g T O J N K P (n:=n) rfl (o:=none) (b:=a) (by simp) (λm h=>by cases h) U (λm h=>by cases h);have B:vA ((movT s j i b a none).dirD s i) (a,n+1)=0:=by rwa[H]
 have x:movR s j i n b a none=(endE s (movX s j i n b a none),endS s (movX s j i n b a none)):=by unfold movR;lia
 rw[C,x];by_cases p:endE s (movX s j i n b a none)=0
 .refine zw ⟨p,?_,?_⟩
  .have w:=L.fin g (by omega) (v Q).1 (v Q).2 (λr=>L.moved g r O J N K P rfl (by simp) (λm h=>by cases h) (λm h=>by cases h) u Q) (by rw[Wu];exact L.rows) (by simp) (DI.mov s j i n _ _ none).dx;lia
  .rw[endS,ze p];exact (gL s.k _).1
 .refine zu ?_;unfold endE at p |-
  lia
theorem R3 {L M:List Pn} (u):∀k,(∀m,m<k->useP (L.getD m zN) u=useP (M.getD m zN) u)->nt L u k=nt M u k
 | 0,_=>rfl
 | k+1,h=>by unfold nt;rw[R3 u k λm a=>h m (by omega),h k (by omega)]
theorem Ej {P:List Int} (h:∀p∈P,p≠0):gN P=P.length:=by rw[gN,uL.2 λp a=>by lia]
theorem Sz {X:Pn} (h:fldR X) (a:∀p∈X.P,p≠0):(gN X.P)=jy X.s:=by rw[Ej a,h.2.2.2.2.2]
theorem Ei {s':Fs} {c':Nat} {A':Nat->AN} (p:SI s c A) (n:SI s' c' A') (r:NHn s.nodes) (o:NHn s'.nodes) (q:∀m,m<32->A' m=A m) (t:∀m,m<32->(A m).k≠2->(s'.nodes.getD m zN).P=(s.nodes.getD m zN).P) (u):nt s'.nodes u 32=nt s.nodes u 32:=by
 refine R3 u 32 λm a=>?_;have e:=p.A_at a;have d:=n.A_at a;rw[q m a]at d;unfold useP;rw[d.1.trans e.1.symm,d.2.2.1.trans e.2.2.1.symm];by_cases b:(A m).k=2
 .have h:=Sz (X:=s.nodes.getD m zN) ((p.tv []).fld a (by omega)) (r.at m (e.1.trans b));have l:=Sz (X:=s'.nodes.getD m zN) ((n.tv []).fld a (by rw[q m a];omega)) (o.at m (d.1.trans b));rw[e.2.2.2.2.1]at h;rw[d.2.2.2.2.1]at l;have:gN (s'.nodes.getD m zN).P=gN (s.nodes.getD m zN).P:=by omega
  rw[this]
 grind
end
