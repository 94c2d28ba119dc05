import Derived.Test.YtpcedcnjofbgjaaGreatDoorKA22
import Derived.Test.YtpcedcnjofbgjaaGreatDoorKB1
import Derived.Test.YtpcedcnjofbgjaaGreatDoorKB5
set_option maxHeartbeats 0
set_option linter.all false
set_option maxRecDepth 100000
namespace Go.Proofs.YtpcedcnjofbgjaaGreatDoor
open Go.Proofs.Tryz Go.RowKit
structure FQ (s:Fs) (C:Nat->Nat->AN):Prop where
 tree:∀t,1<=t->t<4->uB s.fo t=true->Zl (secE s) (s.fo.nd t) s.k
 node:∀t,1<=t->t<4->uB s.fo t=true->∀i,i<32->∃X,(RJ (secE s) (s.fo.nd t) 32)[i]?=some X/\X.k=(C t i).k/\sF (secE s) X.P X.s=(C t i).D/\Zm X.P s.k/\X.P.length<=8/\0<=X.s/\X.s<=512
 byte:Tj s
def oldE (th:Bool) (x:AN):Int:=if th=true then if x.k=0 then 4 else if x.k=1 then 0 else 12 else 4
def oldD (th:Bool) (x:AN):List Int:=if th=true/\x.k=1 then x.D else []
theorem DH {w:World} {gf:Nat} {s:Fs} {F:Nat->Prop} {a:Addr} {C:Nat->Nat->AN} (h:FsAt w gf s F a) (ho:FQ s C) (t i:Nat) (ai:1<=t) (ad:t<4) (hi:i<32):
 Calls prog 15 #[(gf,()),t,(i+1:Int),(),(512:Int)] w
  (λe w'=>∃v,e=.returned (.tuple #[v,(oldE (uB s.fo t) (C t i):Int)])/\uM w' v (oldD (uB s.fo t) (C t i))/\Below w w w'):=by
 obtain⟨A,HA⟩:=zA (encF s.fo);have ae:Hid (∀W,Calls prog 47 #[.agg A,t] W (κ W (.bool (uB s.fo t)))):=λW=>by rw[HA.o];exact RG s.fo t W ad
 obtain⟨Q,HQ⟩:=zA (encT s.fo t);have af:Hid (A.size=192):=by rw[HA.o];exact vX _
 have az:Hid (Q.size=48):=by rw[HQ.o];exact sf _ _
 have aq:=ks h ho.byte;have ac:Hid (uB s.fo t=true->∀W,Below w w W->Calls prog 48 #[.iface 76 (.agg #[(gf,())]),.agg Q] W (λe w'=>∃v,e=.returned (.tuple #[v,()])/\Tf W v (RJ (secE s) (s.fo.nd t) 32) w')):=λL W M=>by rw[HQ.o];exact iB (ks (h.below M) ho.byte) s.fo t (ho.tree t ai ad L)
 have S:=za (λL=>ho.node t ai ad L i hi);have aj:Hid (∀W,Below w w W->∀(X:Pn) (v),tP W v X.P->Zm X.P s.k->X.P.length<=8->0<=X.s->X.s<=512->Calls prog 50 #[.iface 76 (.agg #[(gf,())]),.agg #[X.k,X.m,X.u,X.g,X.s,X.l,X.up,v]] W
  (λe w'=>∃v',e=.returned v'/\w'.ownsRow (W.heap.size+1) 5 1 v' (sF (secE s) X.P X.s).length (u8s (sF (secE s) X.P X.s))/\Below W W w')):=λW M X v h1 h2 h3 h4 h5=>S3 (ks (h.below M) ho.byte) X.k X.m X.u X.g X.s X.l X.up v X.P h1 h3 h2 h4 h5
 obtain⟨⟨gl,rv,nv,bt,bh,E,tl,FD,h1,_⟩,_⟩:=h;obtain⟨R,HR⟩:=zD (fsR a (gl,()) s.fo rv nv (.map (some bt)) (.map (some bh)));have aa:Hid (∀j,j<A.size->R[2+j]?=A[j]?):=by rw[HA.o,<-HR.o];exact Tr _ _ _ _ _ _ _
 have an:Hid (∀j,j<Q.size->R[2+t*48+j]?=Q[j]?):=by intro j hj;rw[HQ.o]at hj |-;rw[<-Rm s.fo t ad j hj,<-HA.o,yp];refine aa.o _ ?_;rw[af.o];rw[sf]at hj;omega
 rw[HR.o]at h1;have q:=za h1;have a3:¬(t:Int)<1:=by omega
 have a4:=zJ (by omega);have aD:(t:Int)<4:=by omega
 have aL:¬(i:Int)+1<1:=by omega
 have a9:=zJ (by omega);have aF:¬32<(i:Int)+1:=by omega
 have a6:=zJ (by omega);have i1:IntKind.i64.wrap (i+1-1)=i:=by rw[zM _ (by omega)];omega
 have a8:(i:Int)<32:=by omega
 obtain⟨th,ap⟩:=zD (uB s.fo t);rw[ap.o]at ae ac S |-;clear h1 ho aq;go_enter func15,ntmps15;go_wp2_with (refine uU (by kernel_rfl) 85 (.tmp 30) rfl gf 2 rfl 97 R A (0,0) _ q.o aa.o forT rfl (by rw[af.o];exact forI) ?_)
 refine (ae.o w).mono ?_;rintro e w1 ⟨rfl,O⟩;have J:=za O;have z:=za (xV O q.o);clear O;cases th with
 | false=>
  go_wp2;go_ret2;exact⟨.slice none 0 0,rfl,⟨rfl,zu ⟨rfl,none,0,rfl⟩⟩,J.o⟩
 | true=>
 go_wp2_with (refine uU (by kernel_rfl) 83 (.tmp 52) rfl gf (2+t*48) rfl 97 R Q (0,0) _ z.o an.o underlying83 rfl (by rw[az.o];exact Od) ?_)
 refine (ac.o trivial w1 J.o).mono ?_;rintro e w2 ⟨v,rfl,E2,G,V,U⟩;obtain⟨X,hX,T,e2,p1,p2,p3,p4⟩:=S.o trivial;obtain⟨gn,on,cn,rfl,aJ,c⟩:=iW (by rw[qF]at G;exact uq.of_owns G) V (qF _ _ _);obtain⟨yq,yn,yc,c0,c1,c2,c3,c4,c5,c6,c7,hI⟩:=c i X hX;have n:=za (zi J.o U);have y:=za (λW (M:Below w w W) hv=>aj.o W M X (yq,yn,yc) hv p1 p2 p3 p4);rw[e2]at y;have ab:Hid (∀W,Below w2 w2 W->tP W (yq,yn,yc) X.P):=λW M=>uq.below hI.now M;have d:(C t i).D.length<=512:=by rw[<-e2];have:=mM (secE s) X.P X.s;omega
 have Y:Hid ((C t i).D.length<=1000):=zv d (by omega);have b:=za ((xW w2 w2).alloc zL (.cells #[X.k,X.m,X.u,X.g,X.s,X.l,X.up,(yq,yn,yc)] 102));have I:Hid (oldE true (C t i)=if X.k=0 then 4 else if X.k=1 then 0 else 12):=by show _=_;unfold oldE;rw[ze rfl,T]
 have H:Hid (oldD true (C t i)=if X.k=1 then (C t i).D else []):=by show _=_;unfold oldD;simp[T]
 clear U hX c hI G V p1 p2 p3 p4 T e2;by_cases x:X.k=0
 .have b0:(X.k==0)=true:=by simpa using x
  have f:Hid (oldE true (C t i)=4/\oldD true (C t i)=[]):=by show _/\_;rw[I.o,H.o,ze x,zb (by omega)];exact⟨rfl,rfl⟩
  clear x;go_wp2;go_ret2;exact⟨.slice none 0 0,(by rw[f.o.1];rfl),by rw[f.o.2];exact⟨rfl,zu ⟨rfl,none,0,rfl⟩⟩,zi n.o b.o⟩
 have b0:(X.k==0)=false:=by simpa using x
 by_cases r:X.k=1
 .have b1:(X.k==1)=true:=by simpa using r
  have f:Hid (oldE true (C t i)=0/\oldD true (C t i)=(C t i).D):=by show _/\_;rw[I.o,H.o,zb x,ze r,ze r];exact⟨rfl,rfl⟩
  have p:=za (y.o _ (zi n.o b.o) (ab.o _ b.o));obtain⟨D,HD⟩:=zD ((C t i).D);rw[HD.o]at p Y f d;have N:=za d;clear d;clear x r y ab;go_wp2_with fail
  refine p.o.mono ?_;rintro e w3 ⟨v3,rfl,K,Z⟩;have ar:=za (zi (zi n.o b.o) Z);have au:=za (Um v3 D w3 ⟨uq.of_owns K,pO K⟩ Y.o 0 512 (by omega) (by omega) (by omega));clear K Z;go_wp2_with fail
  refine au.o.mono ?_;rintro e w4 ⟨v4,rfl,B,ag⟩;have aw:Hid (uM w4 v4 D):=by have T:oA D 0 512=D:=(by unfold oA;rw[vy,zo N.o]);rw[T]at B;exact B
  have ax:=za (zi ar.o ag);clear B ag;go_wp2;go_ret2;exact⟨v4,(by rw[f.o.1];rfl),by rw[f.o.2];exact aw.o,ax.o⟩
 .have b1:(X.k==1)=false:=by simpa using r
  have f:Hid (oldE true (C t i)=12/\oldD true (C t i)=[]):=by show _/\_;rw[I.o,H.o,zb x,zb r,zb r];exact⟨rfl,rfl⟩
  clear x r;go_wp2;go_ret2;exact⟨.slice none 0 0,(by rw[f.o.1];rfl),by rw[f.o.2];exact⟨rfl,zu ⟨rfl,none,0,rfl⟩⟩,zi n.o b.o⟩
