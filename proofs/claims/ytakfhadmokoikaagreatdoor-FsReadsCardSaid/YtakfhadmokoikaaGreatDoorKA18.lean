import Derived.Test.YtakfhadmokoikaaGreatDoorKA1
import Derived.Test.YtakfhadmokoikaaGreatDoorKA13
import Derived.Test.YtakfhadmokoikaaGreatDoorKA17
set_option maxHeartbeats 0
set_option linter.all false
set_option maxRecDepth 100000
namespace Go.Proofs.YtakfhadmokoikaaGreatDoor
open Go.Proofs.Tryz Go.RowKit
variable {N:Nat->List Int} {k:Nat} {w:World}
structure Rdr where
 T:TypeId
 u:Value
 fr:Nat
 fs:Nat
 rr:Value
 rs:Value
structure RdAt (w:World) (r:Rdr) (N:Nat->List Int) (k:Nat):Prop where
 n1 : ∀ W : World, (nilAhead 442 r.T r.u "Read").run prog W = .ok (some false) W
 n2 : ∀ W : World, (nilAhead 442 r.T r.u "Size").run prog W = .ok (some false) W
 m1 : ∀ W : World, (method 442 r.T r.u "Read").run prog W = .ok (r.fr, r.rr) W
 m2 : ∀ W : World, (method 442 r.T r.u "Size").run prog W = .ok (r.fs, r.rs) W
 c1:∀(x:Value) (W:World),(callFunc r.fr #[r.rr,x]).run prog W=.ok (.enter r.fr #[r.rr,x]) W
 c2:∀W:World,(callFunc r.fs #[r.rs]).run prog W=.ok (.enter r.fs #[r.rs]) W
 read:∀w':World,Below w w w'->∀n:Nat,n<k->Calls prog r.fr #[r.rr,n] w' (Ws (N n) w')
 size:∀w':World,Below w w w'->Calls prog r.fs #[r.rs] w' fun e w2=>e=.returned k/\Below w' w' w2
 len:∀n,n<k->(N n).length=64
 byte:∀n,n<k->∀x∈N n,0<=x/\x<=255
theorem RdAt.below {w1:World} {r:Rdr} (h:RdAt w r N k) (c:Below w w w1):RdAt w1 r N k:=
 ⟨h.n1,h.n2,h.m1,h.m2,h.c1,h.c2,fun a b=>h.read a (Below.step c b),fun a b=>h.size a (Below.step c b),h.len,h.byte⟩
def rowB (bs:List Int) (i:Nat):Int×Int:=(bs.getD (3*i+1) 0,bs.getD (3*i+2) 0+bs.getD (3*i+3) 0*256)
def sc (bs:List Int):List (Int×Int):=(List.range (bs.getD 0 0).toNat).map (rowB bs)
def ll (bs:List Int):Prop:=bs.length=64/\bs.getD 0 0<=20/\sf (sc bs)=0/\sr (sc bs).length (sc bs)=bs
def Vj (bs:List Int) (w:World) (e:Ending) (w':World):Prop:=
 (ll bs/\∃v,e=.returned (.tuple #[v,()])/\w'.ownsRow w 176 2 v (sc bs).length (wT (sc bs))/\Below w w w') \/
 (¬ll bs/\e=.returned (.tuple #[.slice none 0 0,(3:Int)])/\Below w w w')
theorem Ly (v:Value) (n:List Int) (w:World) (h:vC w v n) (r:n.length≠64) (s:n.length<=1000000):
 Calls prog 54 #[v] w (Vj n w):=by
 have _:=s;obtain⟨N,a⟩:=zA n.length;obtain⟨q,c,j⟩:∃p c,v=.slice p N c:=by
  rw[a.o];obtain⟨_,⟨k,d,e,rfl⟩|⟨g,o,b,rfl,m⟩⟩:=h
  .exact⟨d,e,by rw[k]⟩
  .exact⟨_,b,rfl⟩
 subst j;rw[<-a.o]at s r;have f:((N:Int) != 64)=true:=by rw[rF];omega
 have i:Hid (¬ll n):=fun l=>r (a.o.trans l.1);clear h r;go_enter func54,ntmps54;go_wp2;go_ret2;exact zu ⟨i.o,rfl,zB⟩
theorem MZ (e:List Int) (g c cap:Nat) (d:Int) (w:World) (j:w.cell? (g,c)=some (.int .u8 d)) (h:Hid (d=e.getD 0 0)) (i:20<d) (f:d<=255):
 Calls prog 54 #[.slice (some (g,c)) 64 cap] w (Vj e w):=by
 have b:Hid (¬ll e):=fun a=>by have:=a.2.1;rw[<-h.o]at this;omega
 go_enter func54,ntmps54
 go_wp2;go_ret2;exact zu ⟨b.o,rfl,zB⟩
theorem Zb (l:List Int) (i:Nat) (h:i<l.length):l.getD i 0=l[i]:=by simp[h]
theorem TQ (a:List Int) (k:Nat) (x p q:Int) (h:rowB a k=(x,p+q*256)):(List.range (k+1)).map (rowB a)=(List.range k).map (rowB a)++[(x,p+q*256)]:=by rw[vH,yB,yI,un,h]
theorem M0 (bs:List Int) (g ab cap:Nat) (N:Nat) (w:World) (hc:∀j (hj:j<bs.length),w.cell? (g,ab+j)=some (.int .u8 bs[j])) (hn:bs.length=64) (hx:∀x,x∈bs->0<=x/\x<=255)
 (Hb:Hid (bs.getD 0 0=(N:Int))) (hN:N<=20):
 Calls prog 54 #[.slice (some (g,ab)) 64 cap] w (Vj bs w):=by
 have x0:w.cell? (g,ab)=some (.int .u8 (N:Int)):=by have:=hc 0 (by omega);rw[<-Zb bs 0 (by omega),Hb.o]at this;exact this
 have Y:=Lib.hid hc;have d:=Lib.hid hn;have HX:=Lib.hid hx;have F:Hid (sc bs=(List.range N).map (rowB bs)):=by show _=_;unfold sc;rw[Hb.o];rfl
 have z:Hid ((sc bs).length=N):=by show _=_;rw[F.o];simp
 clear hc hn hx;obtain⟨i0,hi,H,T,P⟩:=xp kU;have HI:=Lib.hid hi;have a0:=Lib.hid H;have a1:=Lib.hid T;have aj:=Lib.hid P;clear hi H T P;have Z:g<w.heap.size:=zG x0;have sN:=zW (N:Int);go_enter func54,ntmps54;go_wp2;go_loopw [4,21] (fun o i wr=>∃(k:Nat) (a:List (Int×Int)),k<=N/\i=.int .i64 k/\Hid (a=(List.range k).map (rowB bs))/\a.length=k/\Hid (wr.ownsRow w 176 2 o a.length (wT a))/\Below w w wr) (fun _ i _=>N-(intOf i).toNat);case atStart=>exact⟨0,[],by omega,rfl,rfl,rfl,yW _ _ _ _,zB⟩
 case round=>
  obtain⟨k,a,hk,rfl,HA,v,J,m⟩:=hrel;have aT:g<wr.heap.size:=zm Z m.size;by_cases aC:k<N
  .have X:3*k+1<bs.length:=(by rw[d.o];omega);have D:3*k+2<bs.length:=(by rw[d.o];omega);have h3:3*k+3<bs.length:=(by rw[d.o];omega);have e1:=Y.o _ X;have e2:=Y.o _ D;have e3:=Y.o _ h3;have c1:=(m.cell (zG e1)).trans e1;have c2:=(m.cell (zG e2)).trans e2;have c3:=(m.cell (zG e3)).trans e3;obtain⟨aK,aE⟩:=HX.o _ (zz X);obtain⟨al,ah⟩:=HX.o _ (zz D);obtain⟨ar,af⟩:=HX.o _ (zz h3);have r:rowB bs k=(bs[3*k+1],bs[3*k+2]+bs[3*k+3]*256):=(by unfold rowB;rw[Zb _ _ X,Zb _ _ D,Zb _ _ h3]);generalize bs[3*k+1]=x at *
   generalize bs[3*k+2]=p at *
   generalize bs[3*k+3]=q at *
   obtain⟨y,Hy⟩:=zA (p+q*256);have an:Hid (a++[(x,y)]=(List.range (k+1)).map (rowB bs)):=(by show _=_;rw[TQ bs k x p q r,<-HA.o,Hy.o]);have s1:=zW (3*(k:Int));have s2:=zW (3*(k:Int)+1);have s3:=zW (3*(k:Int)+2);have s4:=zW (3*(k:Int)+3);have t2:(3*(k:Int)+1).toNat=3*k+1:=(by omega);have t3:(3*(k:Int)+2).toNat=3*k+2:=(by omega);have t4:(3*(k:Int)+3).toNat=3*k+3:=(by omega);have u2:0<=3*(k:Int)+1:=(by omega);have u3:0<=3*(k:Int)+2:=(by omega);have aJ:0<=3*(k:Int)+3:=(by omega);have v2:3*(k:Int)+1<64:=(by omega);have v3:3*(k:Int)+2<64:=(by omega);have v4:3*(k:Int)+3<64:=(by omega);have w1:IntKind.i64.wrap x=x:=zQ _ (by omega);have w2:IntKind.i64.wrap p=p:=zQ _ (by omega);have w3:IntKind.i64.wrap q=q:=zQ _ (by omega);have n:=zW (q*256);have aN:bits .or .i64 p (q*256)=y:=(by rw[ii _ _ al ah ar af,Hy.o]);have hL:a.length<=20:=(by omega);have u:=(J.o.alloc (.cells #[x,y] 176)).lt;have G:=Lib.hid u;clear u e1 e2 e3 r;have ag:Value.ownBlock u4≠some g:=fun hq=>(by have X:=(G.o g hq).1;omega);have AG:=Lib.hid ag;have S:Hid (∀q,Value.ownBlock u4=some q->w.heap.size<=q):=fun q hq=>(G.o q hq).1;have aB:=m.size;clear ag x0;go_wp2_with fail
   go_region_held3 (fun w'=>w'.cell? (g,ab+(3*k+1))=some (.int .u8 x)/\w'.cell? (g,ab+(3*k+2))=some (.int .u8 p)/\w'.cell? (g,ab+(3*k+3))=some (.int .u8 q))
    (first
     | go_keep
     | (
      go_split_ands
      refine⟨?_,?_,?_⟩
      ·(rw[b.cell_far _ (by simp;omega) (yF AG.out)];assumption)
      ·(rw[b.cell_far _ (by simp;omega) (yF AG.out)];assumption)
      ·(rw[b.cell_far _ (by simp;omega) (yF AG.out)];assumption)))
    ((
     refine tr _ (by rfl) _ _ _ (by rfl) w.heap.size 176 i0 _ 2 16 rowT HI.o a0.o a1.o aj.o rfl (by omega) u4 a.length (wT a) (by rfl) ((J.o.alloc _).drew)
      ⟨wr.heap.size,0,none⟩ 1 1 [.int .i64 x,.int .i64 y] (by rfl) (by rfl) (xU (cs:=#[.int .i64 x,.int .i64 y]) (t:=176) (fr:=(0,0)) (zT wr _)) (by simp[Value.oneCell'])
      (by omega) (by unfold maxLen;omega) (by omega) (by simp;omega) (wr.heap.size+1) (by simp) ?_;intro gg I n s b aw K))
   have am:Hid (n.ownsRow w 176 2 (gg,0,(k+1),I) (a++[(x,y)]).length (wT (a++[(x,y)]))):=(by show World.ownsRow _ _ _ _ _ _ _;rw[oW,zl,<-v];exact s);have au:Below w w n:=xC (lw (m.alloc m.size _) 1) b (by simp[World.drewN];omega) S.o;clear s b aw K s1 s2 s3 s4 w1 w2 w3;go_wp2;go_roundw;case rel=>exact⟨k+1,a++[(x,y)],by omega,by go_num,an,by simp;omega,am,au⟩
   case measure=>simp[intOf];omega
  .have Q:k=N:=(by omega);have ak:Hid (a=sc bs):=(by show _=_;rw[HA.o,F.o,Q]);have R:Hid (wr.ownsRow w 176 2 u4 (sc bs).length (wT (sc bs))):=(by have:=J.o;rw[ak.o]at this;exact this);have V:Hid (xT wr u4 2 (sc bs).length (wT (sc bs))):=xT.of_owns R.o;obtain⟨q2,c2,ho,_⟩:=tR J.o;rw[v]at ho;subst ho;clear v HA J;subst Q;by_cases U:sf (sc bs)=0
   .have HR:=Lib.hid U;clear U;go_wp2_with fail
    refine (Jl _ (sc bs) _ V.o HR.o).mono ?_;rintro e n ⟨g4,rfl,aR,M,f⟩;have l:=Below.step m f;have E:Hid (vC n (.slice (some ⟨g4,0,none⟩) 64 64) (sr (sc bs).length (sc bs))):=YH (WO _ _ (by rw[z.o];omega)) M;have ad:Hid (n.ownsRow w 176 2 (q2,k,c2) (sc bs).length (wT (sc bs))):=th R.o f;have ay:Hid (vC n (.slice (some (g,ab)) 64 cap) bs):=by
     refine⟨by rw[vO];omega,zu ⟨g,ab,cap,by rw[d.o],fun j x hx=>?_⟩⟩;have hj:j<bs.length:=by
      rcases sa j bs.length with h|h
      .exact h
      .rw[yd (by rw[vO];omega)]at hx;cases hx
     rw[sJ _ _ hj]at hx;cases hx;have:=Y.o j hj;exact (l.cell (zG this)).trans this
    have A:Hid ((sr (sc bs).length (sc bs)).length=64):=WO _ _ (by rw[z.o];omega);obtain⟨PB,B⟩:=zD (sr (sc bs).length (sc bs));rw[B.o]at A E;clear M f;go_wp2_with fail
    refine (Va _ _ _ bs _ E.o ay.o (by rw[A.o,d.o]) (by rw[A.o];omega)).mono ?_;obtain⟨q,Hq⟩:=zD (eqB PB bs);rw[Hq.o];rintro e w5 ⟨rfl,C⟩;have O:=Below.step l C;have az:Hid (w5.ownsRow w 176 2 (q2,k,c2) (sc bs).length (wT (sc bs))):=th ad.o C;clear C;cases q with
    | true=>
     have L:Hid (ll bs):=⟨d.o,by rw[Hb.o];omega,HR.o,by rw[B.o];exact nA Hq.o⟩;go_wp2;go_ret2;exact zt ⟨L.o,_,rfl,az.o,O⟩
    | false=>
     have L:Hid (¬ll bs):=fun h=>(by have D:=h.2.2.2;rw[B.o]at D;exact yb (yf D) (by have:=Hq.o;unfold eqB at this;rw[this];simp));go_wp2;go_ret2;exact zu ⟨L.o,rfl,O⟩
   .have L:Hid (¬ll bs):=fun h=>U h.2.2.1;obtain⟨c,W⟩:=zD (sf (sc bs));have ap:(c != 0)=true:=(by rw[rF,<-W.o];exact U);clear U;go_wp2_with fail
    refine (Pd _ (sc bs) _ V.o (by rw[z.o];omega) c W ap).mono ?_;rintro e n ⟨rfl,f⟩;have l:=Below.step m f;clear f;go_wp2;go_ret2;exact zu ⟨L.o,rfl,l⟩
theorem JS (v:Value) (l:List Int) (w:World) (h:vC w v l) (m:∀x,x∈l->0<=x/\x<=255) (n:l.length<=1000000):
 Calls prog 54 #[v] w (Vj l w):=by
 by_cases e:l.length=64
 .obtain⟨_,⟨i,_⟩|⟨g,a,c,rfl,k⟩⟩:=h
  .omega
  .have b:∀j (f:j<l.length),w.cell? (g,a+j)=some (.int .u8 l[j]):=fun j f=>k j _ (sJ l j f);rw[e];have i:=m _ (zz (by omega:0<l.length));by_cases d:20<l[0]
   .exact MZ l g a c l[0] w (b 0 (by omega)) (Zb l 0 (by omega)).symm d i.2
   .exact M0 l g a c l[0].toNat w b e m (by show _=_;rw[Zb l 0 (by omega)];omega) (by omega)
 .exact Ly v l w h e n
def tE (N:Nat->List Int) (p:Int):List Int:=if p=0 then List.replicate 64 0 else N p.toNat
def rX (N:Nat->List Int) (P:List Int) (n:Nat):List Int:=(P.take n).flatMap (tE N)
def tc (N:Nat->List Int) (P:List Int) (s:Int):List Int:=(P.flatMap (tE N)).take s.toNat
def ng (P:List Int) (k:Nat):Prop:=∀p∈P,0<=p/\p<(k:Int)
theorem V5 (N:Nat->List Int) (P:List Int) (n:Nat) (h:n<P.length):rX N P (n+1)=rX N P n++tE N P[n]:=by unfold rX;rw[sE,zf h,vJ];simp
theorem JO (a:∀n,n<k->(N n).length=64) {p:Int} (b:0<=p) (c:p<(k:Int)):(tE N p).length=64:=by
 unfold tE;split
 .simp
 .exact a _ (by omega)
theorem JI {N:Nat->List Int} {k:Nat} (b:∀n,n<k->(N n).length=64) {P:List Int} (c:ng P k):∀n,n<=P.length->(rX N P n).length=64*n
 | 0,_=>by simp[rX]
 | n+1,h=>by have a:=c P[n] (zz (by omega));rw[V5 N P n (by omega),zl,JI b c n (by omega),JO b a.1 a.2];omega
theorem JJ (N:Nat->List Int) (P:List Int):rX N P P.length=P.flatMap (tE N):=by unfold rX;rw[xN]
def su (w:World) (B:Nat) (v:Value) (D:List Int):Prop:=∃g cap cur,v=.slice (some ⟨g,0,none⟩) 64 cap/\D.length=64/\64<=cap/\B<=g/\w.heap[g]?=some (.cells cur 5)/\cur.toList.take 64=u8s D
theorem su.cell {g _B _cap:Nat} {cur:Array Value} {D:List Int} (f:D.length=64) (d:w.heap[g]?=some (.cells cur 5)) (e:cur.toList.take 64=u8s D):∀(j:Nat) (u:Value),(u8s D)[j]?=some u->w.cell? ((⟨g,0,none⟩:Addr).add j)=some u:=fun j u b=>by
 have a:(⟨g,0,none⟩:Addr).add j=⟨g,j,none⟩:=by unfold Addr.add;split<;>simp_all
 have c:=(zy.1 b).1;rw[vO]at c;rw[a,zC d,<-zP];rw[<-e,zI,ze (by omega)]at b;exact b
theorem Ks {r:Rdr} (h:RdAt w r N k) (kd m u g s l up:Int) (v:Value) (P:List Int) (hv:vQ w v P) (hl:P.length<=8) (hP:ng P k) (hs:0<=s) (a7:s<=512):
 Calls prog 40 #[.iface r.T r.u,.agg #[kd,m,u,g,s,l,up,v]] w
  (fun e w'=>∃v',e=.returned v'/\w'.ownsRow (w.heap.size+1) 5 1 v' (tc N P s).length (u8s (tc N P s))/\Below w w w'):=by
 have q1:=h.n1;have q2:=h.m1;have q3:=h.c1;have HR:=Lib.hid h;have ak:=Lib.hid hP;obtain⟨n,HN⟩:=zD P.length;have bs:n<=8:=by rw[<-HN.o];exact hl
 obtain⟨p,cp,X,HP⟩:=Zq hv;rw[HN.o]at X HP;subst X;have HV:=Lib.hid hv;clear h hv hP hl;obtain⟨i0,ap,ac,au,am⟩:=xp jt;have aS:=Lib.hid ap;have aD:=Lib.hid ac;have a5:=Lib.hid au;have aJ:=Lib.hid am;clear ap ac au am;obtain⟨Z,HZ⟩:=zA (List.replicate 64 (0:Int));have bp:∀W:World,(Instr.makeSlice 23 (.int .i64 64) (.int .i64 64)).run prog W=.ok (.slice (some ⟨W.heap.size,0,none⟩) 64 64) (W.alloc (.cells (u8s Z).toArray 5)):=fun W=>by rw[HZ.o];exact jl 64 64 rfl (by omega) W
 go_enter func40,ntmps40
 go_wp2;obtain⟨Q,C⟩:=zD (w.alloc (.cells #[kd,m,u,g,s,l,up,(p,n,cp)] 59));rw[C.o];have M:Hid (Below w w Q):=by show _;rw[<-C.o];exact zB.alloc zL _
 have aH:Hid (Q.heap[w.heap.size]?=some (.cells #[kd,m,u,g,s,l,up,(p,n,cp)] 59)):=by show _=_;rw[<-C.o];exact zH
 have A:Hid (Q.heap.size=w.heap.size+1):=by show _=_;rw[<-C.o];simp
 go_loopw [5,14] (fun o i wr=>∃j:Nat,j<=n/\i=.int .i64 j/\Hid (wr.ownsRow (w.heap.size+1) 5 1 o (64*j) (u8s (rX N P j)))/\Hid (Below Q Q wr)) (fun _ i _=>n-(intOf i).toNat)
 case atStart=>exact⟨0,ye _,rfl,yW _ _ _ _,zB⟩
 case round=>
  obtain⟨j,hj,rfl,HO,E⟩:=hrel;by_cases aC:j<n
  .obtain⟨gp,op,rfl,hc⟩:=HP.o (by omega);have B:j<P.length:=(by rw[HN.o];exact aC);have K:=ak.o P[j] (zz B);have cj:=hc j _ (mt P j B);have aB:=zG cj;have cj:=((Below.step M.o (E.o)).cell (p:=⟨gp,op+j,none⟩) aB).trans cj;have ad:=Lib.hid (V5 N P j B);have af:=Lib.hid (JO HR.o.len K.1 K.2);obtain⟨x,Hx⟩:=zD (P[j]' B);rw[Hx.o]at K cj ad af;have av:(j:Int)<(n:Int):=by omega
   go_upto_if 20 with fail
   go_cut [8] (fun b wx=>Hid (su wx (w.heap.size+1) b (tE N x))/\Hid (Below wr wr wx))
   case first=>
    by_cases d:x=0
    .have b0:(x != 0)=false:=(by simp[d]);have J:Hid (tE N x=Z):=(by show _=_;rw[HZ.o,d];rfl);have ab:Hid (Z.length=64):=(by show _=_;rw[HZ.o];simp);subst d;go_wp2
     go_meet
     case rel=>
      refine⟨?_,?_⟩
      .rw[J.o];exact⟨_,_,_,rfl,ab.o,zL,zr (vM A.o.symm) E.o.size,zH,by rw[zv (by rw[xV,vO,ab.o];exact zL)]⟩
      .exact zB.alloc zL _
    .have b0:(x != 0)=true:=(by simpa using d);obtain⟨y,Hy⟩:∃y:Nat,Hid (x=(y:Int)):=⟨x.toNat,by show _=_;omega⟩;have J:Hid (tE N x=N y):=(by show _=_;unfold tE;rw[zb d,Hy.o];rfl);have ay:y<k:=(by have:=Hy.o;omega);have ae:=Lib.hid (HR.o.read (wr.alloc (.cells (u8s Z).toArray 5)) (Below.step (Below.step M.o E.o) (zB.alloc zL _)) y ay);have al:=Lib.hid (HR.o.len y ay);rw[<-Hy.o]at ae;clear d;go_wp2_with fail
     refine ae.o.mono ?_;rintro e w3 ⟨v3,rfl,aO⟩;obtain⟨g3,V,ao,rfl,a,aq,O,ai⟩:=aO;rw[al.o]at a O ⊢;have aG:=Lib.hid aq;have aT:=Lib.hid O;have aM:=Lib.hid ai;clear aq O ai;go_wp2
     go_meet
     case rel =>refine⟨?_,Below.step (zB.alloc zL _) aM.o⟩;rw[J.o];exact⟨g3,V,ao,rfl,al.o,a.2,zr (zr (vM A.o.symm) (zr E.o.size (by simp))) a.1,aG.o,aT.o⟩
   case rest=>
    obtain⟨⟨gb,cb,bo,rfl,aK,bu,aw,ag,Y⟩,D⟩:=hcut;have aE:=Lib.hid (su.cell (_B:=w.heap.size+1) (_cap:=cb) aK ag Y);have aj:=Lib.hid (th HO.o D.o);have bh:=Lib.hid aw;clear ag Y aw cj;have bf:j<=8:=(by omega);have aL:Hid ((u8s (tE N x)).length=64):=(by show _=_;rw[vO,af.o]);have a6:=Lib.hid (oR (tE N x));have a3:Hid (w.heap.size+1<=wc.heap.size):=zr (vM A.o.symm) (zr E.o.size D.o.size);go_wp2_with (at_builtin;refine yH _ rfl _ _ 23 rfl (w.heap.size+1) 5 i0 (.int .u8 0) 1 1 u8sT aS.o aD.o a5.o aJ.o rfl (by decide) _ _ _ rfl aj.o ⟨gb,0,none⟩ 64 cb (u8s (tE N x)) rfl (by rw[aL.o]) aE.o a6.o (by unfold maxLen;omega) (by omega) a3.o ?_;intro v5 w5 H f U)
    have a9:Hid (w5.ownsRow (w.heap.size+1) 5 1 v5 (64*(j+1)) (u8s (rX N P (j+1)))):=(by show _;rw[ad.o,qh,show 64*(j+1)=64*j+64 by omega];exact H);have aQ:Hid (Below Q Q w5):=xC (Below.step E.o D.o) f (zr E.o.size D.o.size) (fun q hq=>by rw[A.o];exact (aj.o.lt q hq).1);clear H f U;go_wp2;go_roundw;case rel=>exact⟨j+1,by omega,by go_num,a9,aQ⟩
    case measure=>simp[intOf];omega
  .obtain rfl:j=n:=(by omega);have av:¬((j:Int)<(j:Int)):=(by omega);have HF:Hid (wr.cell? (w.heap.size,4)=some (.int .i64 s)):=zC (we E.o aH.o);obtain⟨L,HL⟩:∃L:Nat,Hid (64*j=L):=⟨_,rfl⟩;obtain⟨t,HT⟩:∃t:Nat,Hid (s=(t:Int)):=⟨s.toNat,by show _=_;omega⟩;have hF:=HF.o;rw[HT.o]at hF;rw[HL.o]at HO;have a1:Hid (rX N P j=P.flatMap (tE N)):=(by show _=_;rw[<-HN.o];exact JJ N P);have z:Hid ((rX N P j).length=L):=(by show _=_;rw[<-HL.o];exact JI HR.o.len ak.o j (by rw[HN.o];exact zL));have c:Hid (tc N P s=(rX N P j).take t):=(by show _=_;unfold tc;rw[<-a1.o,HT.o];rfl);have F:Hid (Below w w wr):=Below.step M.o E.o;obtain⟨a0,⟨hv,h0⟩|⟨gq,S,I,rfl,aF,hh,be,ax,ah,ht⟩⟩:=id HO.o
   .subst hv;have aA:L=0:=(by have:=z.o;omega);subst aA;go_wp2;all_goals (go_ret;refine⟨_,rfl,?_,F.o⟩)
    all_goals (
     rw[c.o];have e:(rX N P j).take t=[]:=(by have:=z.o;rw[yG]at this;rw[this];simp);rw[e];exact yW _ _ _ _)
   .have HH:=Lib.hid hh;have a2:=Lib.hid ht;have a8:=Lib.hid ax;have aR:=Lib.hid ah;clear hh ht ax ah a0;have G:∀x:Nat,x<=L->(tc N P s)=(rX N P j).take x->wr.ownsRow (w.heap.size+1) 5 1 (gq,0,x,S) (tc N P s).length (u8s (tc N P s)):=fun x hx e=>(by have aa:((rX N P j).take x).length=x:=(by rw[zi,z.o];omega);rw[e,aa];refine⟨by rw[vO,aa];omega,zu ⟨gq,S,I,rfl,aF,HH.o,by omega,a8.o,aR.o,?_⟩⟩;have e2:I.toList.take (x*1)=(I.toList.take (L*1)).take x:=(by rw[vf];congr 1;omega);rw[e2,a2.o,od]);have R:=Lib.hid G;clear G;by_cases aP:t<=L
    .have e1:(t:Int)<=(L:Int):=(by omega);have e2:(t:Int)<=(S:Int):=(by omega);have e3:t<=S:=(by omega);have e4:¬((L:Int)<(t:Int)):=(by omega);have e5:¬L<t:=(by omega);go_wp2;all_goals go_ret
     all_goals first|exact⟨_,rfl,R.o t aP c.o,F.o⟩|(refine⟨_,rfl,R.o L zL ?_,F.o⟩;rw[c.o];congr 1;omega)
    .have e1:¬(t:Int)<=(L:Int):=(by omega);have e3:L<=S:=(by omega);have e2:(L:Int)<=(S:Int):=(by omega);have e4:(L:Int)<(t:Int):=(by omega);have e5:L<t:=(by omega);go_wp2;all_goals go_ret
     all_goals refine⟨_,rfl,R.o L zL ?_,F.o⟩
     all_goals rw[c.o,zv (by rw[z.o];omega),zv (by rw[z.o];omega)]
end Go.Proofs.YtakfhadmokoikaaGreatDoor
namespace Go.Proofs.YtakfhadmokoikaaGreatDoor
open Go.Proofs.Tryz
variable {B b base base' h k:Nat} {L l:List Rb} {N:List Int} {P:List Wr} {st:Dk} {v:Value} {w w':World}
def doE (st:Dk) (x:Rb):Dk:=if x.2.2=true then pN st else tV st x.1 x.2.1
def runE (st:Dk) (l:List Rb):Dk:=l.foldl doE st
theorem L5 (st:Dk) (l:List Rb) (x:Rb):runE st (l++[x])=doE (runE st l) x:=by unfold runE;rw[xF];rfl
theorem Zf (st:Dk) (a b:List Rb):runE st (a++b)=runE (runE st a) b:=by unfold runE;rw[xF]
theorem kY (st:Dk) (x:Rb):(doE st x).W.length<=st.W.length+1:=by
 unfold doE;split
 .have:=RJ st;omega
 .exact Vl _ _ _
theorem gK (st:Dk) (l:List Rb):(runE st l).W.length<=st.W.length+l.length:=by
 induction l generalizing st with
 | nil=>exact zL
 | cons x l a=>
  have c:=a (doE st x);have b:=kY st x;show (runE (doE st x) l).W.length<=_;rw[yz];omega
structure On (st:Dk) (k:Nat):Prop where
 fu:st.fu = -1
 n:st.N.length=64*k
def RbOk (k:Nat) (x:Rb):Prop:=x.2.2=true\/(x.1<k/\x.2.1.length=64)
def WrOk (k:Nat) (x:Wr):Prop:=x.1<k/\x.2.length=64
theorem gY (h:On st k):pN st={S:=st.N,N:=st.N,W:=[],fu:= -1}:=by unfold pN;rw[zb (by rw[h.fu];decide),h.fu];rfl
theorem Zc (h:On st k) (n:Nat) (D:List Int):tV st n D={S:=st.S,N:=putS st.N n D,W:=st.W++[(n,D)],fu:= -1}:=by unfold tV;rw[zb (by rw[h.fu];decide),h.fu];rfl
theorem On.flush (h:On st k):On (pN st) k:=by rw[gY h];exact⟨rfl,h.n⟩
theorem On.do (h:On st k) {x:Rb} (d:RbOk k x):On (doE st x) k:=by
 unfold doE;split
 .exact h.flush
 .rename_i c;rcases d with d|⟨a,b⟩
  .exact yb d c
  .rw[Zc h];exact⟨rfl,jn h.n a b⟩
theorem On.run:∀{st:Dk},On st k->(∀x∈l,RbOk k x)->On (runE st l) k:=by
 induction l with
 | nil=>intro st h _;exact h
 | cons x l c=>intro st h a;exact c (h.do (a x (by simp))) fun y b=>a y (by simp[b])
theorem RD (k:Nat):On (tJ k) k:=⟨rfl,by unfold tJ;simp⟩
def lD (N:List Int) (P:List Wr):List Int:=P.foldl (fun N x=>putS N x.1 x.2) N
theorem NR (N:List Int) (P:List Wr) (x:Wr):lD N (P++[x])=putS (lD N P) x.1 x.2:=by unfold lD;rw[xF];rfl
theorem Kj (P:List Wr) (c:N.length=64*k) (d:∀x∈P,WrOk k x):(lD N P).length=64*k:=by
 induction P generalizing N with
 | nil=>exact c
 | cons x P a=>
  have:=d x (by simp);exact a (jn c this.1 this.2) fun y b=>d y (by simp[b])
theorem NQ (l:N.length=64*k) (i:∀x∈P,WrOk k x) (m:Nat) (n:m<k):∀j,j<=P.length->sec (lD N (P.take j)) m=(ss (P.take j) m).getD (sec N m):=by
 intro j
 induction j with
 | zero=>intro _;rfl
 | succ j f=>
  intro g;have a:j<P.length:=by omega
  have b:=i P[j] (zz a);have c:=Kj (P.take j) l fun y d=>i y (xd d);rw[<-zY a,NR,VU];by_cases e:P[j].1=m
  .rw[ze e,<-e,W6 c b.1 b.2];rfl
  .rw[zb e,Zz c b.1 n b.2 (fun h=>e h.symm)];exact f (by omega)
theorem Ki (a:N.length=64*k) (b:∀x∈P,WrOk k x) (m:Nat) (c:m<k):sec (lD N P) m=(ss P m).getD (sec N m):=by
 have:=NQ a b m c P.length zL
 rwa [xN]at this
theorem lp (b:h<256) (c:∀x∈P,WrOk k x):∀x∈tO P h,WrOk k x:=by intro x a;exact c _ (WS P x.1 x.2 ((fC P h b x).1 a).2)
theorem VW (e:k<=256) (d:h<256) (b:N.length=64*k) (c:∀x∈P,WrOk k x):lD N (tO P h)=lD N P:=by refine UB (Kj _ b (lp d c)) (Kj _ b c) fun m a=>?_;rw[Ki b (lp d c) m a,Ki b c m a,Nv P h m d (by omega)]
theorem Gg (c:∀x∈P,WrOk k x):∀x∈emit P,RbOk k x:=by intro x b;obtain⟨y,a,rfl⟩:=zV.1 b;exact zu (c y a)
theorem Ze:∀{st:Dk},On st k->(∀x∈P,WrOk k x)->(runE st (emit P)).N=lD st.N P/\(runE st (emit P)).S=st.S:=by
 induction P with
 | nil=>intro st _ _;exact⟨rfl,rfl⟩
 | cons x P d=>
  intro st h a;have f:=a x (by simp);have e:doE st (x.1,x.2,false)=tV st x.1 x.2:=by unfold doE;rw[zb (by simp)]
  have b:=d (st:=doE st (x.1,x.2,false)) (h.do (zu f)) fun y c=>a y (by simp[c]);show (runE (doE st (x.1,x.2,false)) (emit P)).N=lD (putS st.N x.1 x.2) P/\(runE (doE st (x.1,x.2,false)) (emit P)).S=_;rw[b.1,b.2,e,Zc h];exact⟨rfl,rfl⟩
theorem QV:∀{st st':Dk},On st k->On st' k->st.N=st'.N->(∀x∈l,RbOk k x)->(runE st l).N=(runE st' l).N:=by
 induction l with
 | nil=>intro st st' _ _ e _;exact e
 | cons x l f=>
  intro st st' h a e b;have c:=b x (by simp);refine f (h.do c) (a.do c) ?_ fun y d=>b y (by simp[d]);unfold doE;split
  .rw[gY h,gY a];exact e
  .rw[Zc h,Zc a];show putS _ _ _=putS _ _ _;rw[e]
theorem ZW {r:List Rb} (h:∀x∈emit P++r,RbOk k x):∀x∈P,WrOk k x:=by
 intro x a;have:=h (x.1,x.2,false) (List.mem_append_left _ (zV.2 ⟨x,a,rfl⟩));rcases this with h|h
 .cases h
 .exact h
theorem QU (w:k<=256) (l:List Rb) (h:Nat) (t:h<256) (st:Dk) (u:On st k) (v:∀x∈l,RbOk k x):(runE st (rO [] h l)).N=(runE st l).N/\∀x∈rO [] h l,RbOk k x:=by
 have i:∀(j:Nat) (l:List Rb) (h:Nat) (st:Dk),h<256->l.length<=j->On st k->(∀x∈l,RbOk k x)->(runE st (rO [] h l)).N=(runE st l).N/\∀x∈rO [] h l,RbOk k x:=by
  intro j
  induction j with
  | zero=>
   intro l h st t d u v;have:l=[]:=(by cases l with|nil=>rfl|cons a l=>simp at d);subst this;have e:rO [] h []=emit (tO [] h):=rfl;rw[e,(Ze u (lp t (fun x b=>by simp at b))).1,VW w t u.n (fun x b=>by simp at b)];exact⟨rfl,Gg (lp t (fun x b=>by simp at b))⟩
  | succ j q=>
   intro l h st t d u v;rcases YW l with⟨P,rfl⟩|⟨P,m,D,r,rfl,s⟩
   .have c:∀x∈P,WrOk k x:=ZW (r:=[]) (by simpa using v);rw[WZ,xj,(Ze u (lp t c)).1,(Ze u c).1,VW w t u.n c];exact⟨rfl,Gg (lp t c)⟩
   .have c:∀x∈P,WrOk k x:=ZW v;have f:∀x∈r,RbOk k x:=fun x b=>v x (by simp[b]);have g:=u.run (Gg (lp t c));have p:=u.run (Gg c);have o:=q r (o8 P h) (pN (runE st (emit (tO P h)))) (WF P h t) (by omega) g.flush f;rw[KC,xj];refine⟨?_,fun x b=>?_⟩
    .rw[Zf,Zf];show (runE (pN (runE st (emit (tO P h)))) _).N=(runE (pN (runE st (emit P))) _).N;rw[o.1];refine QV g.flush p.flush ?_ f;rw[gY g,gY p];show (runE st (emit (tO P h))).N=(runE st (emit P)).N;rw[(Ze u (lp t c)).1,(Ze u c).1,VW w t u.n c]
    .rcases yv.1 b with b|b
     .exact Gg (lp t c) x b
     .rcases yN.1 b with rfl|b
      .exact zt rfl
      .exact o.2 x b
 exact i l.length l h st t zL u v
open Go.RowKit
structure Rq where
 n:Nat
 v:Value
 D:List Int
 b:Bool
def rab (x:Rq):Rb:=(x.n,x.D,x.b)
def rq3 (x:Rq):List Value:=[.int .i64 (x.n:Int),x.v,.bool x.b]
def uU (E:List Rq):List Value:=E.flatMap rq3
theorem WV (l:List Rq):(uU l).length=l.length*3:=by
 induction l with
 | nil=>rfl
 | cons x l a=>simp only[uU,rq3,xA,zl,yz,xP]at *;omega
theorem Ua (a b:List Rq):uU (a++b)=uU a++uU b:=by simp[uU]
theorem J0 (x:Rq) (b:List Rq):uU (x::b)=rq3 x++uU b:=by simp[uU]
theorem It (l:List Rq) (k:Nat):(uU l).take (k*3)=uU (l.take k)/\(uU l).drop (k*3)=uU (l.drop k):=by
 by_cases b:k<=l.length
 .have e:uU l=uU (l.take k)++uU (l.drop k):=by rw[<-Ua,xO]
  have a:(uU (l.take k)).length=k*3:=by rw[WV,zi];omega
  constructor
  .rw[e,<-a,qL]
  .rw[e,<-a,List.drop_left]
 .have:=WV l;rw[zv (l:=l) (by omega),yP (l:=l) (by omega),zv (by omega),yP (by omega)];exact⟨rfl,rfl⟩
theorem fJ (l:List Rq) (k:Nat) (c:k<l.length):(uU l)[k*3]?=some (.int .i64 (l[k].n:Int))/\(uU l)[k*3+1]?=some l[k].v/\(uU l)[k*3+2]?=some (.bool l[k].b):=by
 have e:uU l=uU (l.take k)++(.int .i64 (l[k].n:Int)::l[k].v::.bool l[k].b::uU (l.drop (k+1))):=by
  conv=>lhs;rw[<-xO k l,xe c,Ua,J0]
  rfl
 have a:(uU (l.take k)).length=k*3:=by rw[WV,zi];omega
 rw[e];refine⟨?_,?_,?_⟩
 .rw[zx (by omega),a,show k*3-k*3=0 by omega];rfl
 .rw[zx (by omega),a,show k*3+1-k*3=1 by omega];rfl
 .rw[zx (by omega),a,show k*3+2-k*3=2 by omega];rfl
def RqOk (w:World) (x:Rq):Prop:=(x.b=true/\x.n=0/\x.v=.slice none 0 0/\x.D=[])\/(x.b=false/\x.n<256/\vC w x.v x.D/\x.D.length=64)
def kp (w:World) (v:Value) (L:List Rb):Prop:=∃E:List Rq,E.map rab=L/\xT w v 3 E.length (uU E)/\∀x∈E,RqOk w x
theorem RqOk.below {x:Rq} (h:RqOk w x) (e:Below w w w'):RqOk w' x:=by
 rcases h with h|⟨c,a,d,b⟩
 .exact zt h
 .exact zu ⟨c,a,xT.below d e,b⟩
theorem kp.below (h:kp w v L) (e:Below w w w'):kp w' v L:=by obtain⟨E,a,c,b⟩:=h;exact⟨E,a,xT.below c e,fun x d=>(b x d).below e⟩
def ml (w:World) (base:Nat) (x:Rq):Prop:=(x.b=true/\x.n=0/\x.v=.slice none 0 0/\x.D=[]) \/
 (x.b=false/\x.n<256/\x.D.length=64/\∃g cap cur,x.v=.slice (some ⟨g,0,none⟩) 64 cap/\(base<=g/\64<=cap)/\w.heap[g]?=some (.cells cur 5)/\cur.toList.take 64=u8s x.D)
def qc (w:World) (base:Nat) (v:Value) (L:List Rb):Prop:=∃E:List Rq,E.map rab=L/\w.ownsRow base 165 3 v E.length (uU E)/\∀x∈E,ml w base x
theorem ml.ok {x:Rq} (h:ml w base x):RqOk w x:=by
 rcases h with h|⟨f,d,a,g,i,b,e,k,c,j⟩
 .exact zt h
 .exact zu ⟨f,d,by rw[e];exact qZ a c j,a⟩
theorem ml.one {x:Rq} (h:ml w base x):x.v.oneCell'=true:=by
 rcases h with⟨_,_,h,_⟩|⟨_,_,_,g,c,a,b,_⟩
 .rw[h];rfl
 .rw[b];rfl
theorem ml.mono {x:Rq} (h:ml w base x) (l:base'<=base):ml w base' x:=by
 rcases h with h|⟨i,e,k,g,b,a,f,c,d,j⟩
 .exact zt h
 .exact zu ⟨i,e,k,g,b,a,f,⟨zr l c.1,c.2⟩,d,j⟩
theorem ml.keep {x:Rq} (h:ml w base x) (n:∀i c,base<=i->w.heap[i]?=some (.cells c 5)->w'.heap[i]?=w.heap[i]?):ml w' base x:=by
 rcases h with h|⟨k,f,m,g,b,a,j,e,d,l⟩
 .exact zt h
 .exact zu ⟨k,f,m,g,b,a,j,e,(n g a e.1 d).trans d,l⟩
theorem qc.at (h:qc w base v L):kp w v L:=by obtain⟨E,a,c,b⟩:=h;exact⟨E,a,xT.of_owns c,fun x d=>(b x d).ok⟩
theorem qc.keeps {F:Nat->Prop} (h:qc w base v L) (m:yK F w w') (n:∀i,base<=i->i<w.heap.size->¬F i):qc w' base v L:=by obtain⟨E,g,e,j⟩:=h;have a:=e.lt;exact⟨E,g,oT e fun b d=>m.block b (a b d).2 (n b (a b d).1 (a b d).2),fun x l=>(j x l).keep fun i c k f=>m.block i (xL f) (n i k (xL f))⟩
theorem qc.below (h:qc w base v L) (a:Below w w w'):qc w' base v L:=
 h.keeps (F:=fun _=>False) (yK.of_below a) fun _ _ _ h=>h
theorem qc.mono (h:qc w base v L) (l:base'<=base):qc w base' v L:=by
 obtain⟨E,d,⟨f,b⟩,i⟩:=h;refine⟨E,d,⟨f,?_⟩,fun x k=>(i x k).mono l⟩;rcases b with b|⟨g,c,a,e,j,r⟩
 .exact zt b
 .exact zu ⟨g,c,a,e,zr l j,r⟩
theorem iC {E:List Rq} (h:E.map rab=L):E.length=L.length:=by rw[<-h,yw]
theorem Sw {E:List Rq} (h:∀x∈E,ml w base x):∀u∈uU E,u.oneCell'=true:=by
 intro u a;unfold uU at a;obtain⟨x,b,a⟩:=wU.1 a;have:=(h x b).one;simp[rq3]at a;rcases a with rfl|rfl|rfl
 .rfl
 .exact this
 .rfl
theorem gA {E:List Rq} (h:xT w v 3 E.length (uU E)):∃p cp,v=.slice p E.length cp/\Hid (0<E.length->∃g o,p=some ⟨g,o,none⟩/\g<w.heap.size/\∀(j:Nat) (x:Value),(uU E)[j]?=some x->w.cell? ⟨g,o+j,none⟩=some x):=by
 obtain⟨_,⟨b,d,e,rfl⟩|⟨g,o,a,rfl,c⟩⟩:=h
 .exact⟨d,e,by rw[b],fun h=>by omega⟩
 .refine⟨_,a,rfl,fun b=>⟨g,o,rfl,?_,c⟩⟩;exact zG (c _ _ (fJ E 0 b).1)
theorem RqOk.shape {x:Rq} (h:RqOk w x):∃p l c,x.v=.slice p l c/\(x.b=false->l=64)/\x.n<256:=by
 rcases h with⟨_,e,d,_⟩|⟨j,e,d,f⟩
 .exact⟨none,0,0,d,fun h=>by simp_all,by omega⟩
 .obtain⟨_,⟨k,_⟩|⟨g,o,a,i,_⟩⟩:=d
  .omega
  .exact⟨_,_,a,i,fun _=>f,e⟩
theorem Sy (v:Value) (E:List Rq) (w:World) (X:xT w v 3 E.length (uU E)) (Y:∀x∈E,RqOk w x) (Z:E.length<=100):
 Calls prog 166 #[v] w fun e w'=>e=.returned ()/\Below w w w':=by
 obtain⟨p,W,rfl,G⟩:=gA X;obtain⟨N,u⟩:=zD E.length;have O:=Lib.hid Y;rw[u.o]at Z G;rw[u.o];clear X Y;have M:¬(100:Int)<(N:Int):=by omega
 go_enter func166,ntmps166
 go_wp2;go_loopw [10] (fun i wr=>∃k:Nat,k<=N/\i=.int .i64 k/\Below w w wr) (fun i _=>N-(intOf i).toNat);case atStart=>exact⟨0,ye _,rfl,zB⟩
 case round=>
  obtain⟨k,T,rfl,c⟩:=hrel;by_cases q:k<N
  .obtain⟨g,o,rfl,l,m⟩:=G.o (by omega);have f:k<E.length:=(by rw[u.o];exact q);obtain⟨A,y,B⟩:=fJ E k f;obtain⟨H,I,J,h,a,t⟩:=(O.o E[k] (zz f)).shape;rw[h]at y;have Q:=(c.cell (p:=⟨g,o+k*3,none⟩) l).trans (m _ _ A);have K:=(c.cell (p:=⟨g,o+(k*3+1),none⟩) l).trans (m _ _ y);have C:=(c.cell (p:=⟨g,o+(k*3+2),none⟩) l).trans (m _ _ B);rw[<-yA]at K C;obtain⟨d,s⟩:=zD (E[k].n);obtain⟨D,r⟩:=zD (E[k].b);rw[s.o]at Q t;rw[r.o]at C a;have F:(k:Int)<(N:Int):=(by omega);have P:g<wr.heap.size:=zm l c.size;have L:¬g=wr.heap.size:=(by omega);have j:Hid (Below w w (wr.alloc (.cells #[d,(H,I,J),.bool D] 165))):=c.alloc c.size _;clear m A y B h;cases D with
   | true=>
    clear a;go_wp2;go_roundw;case rel=>exact⟨k+1,by omega,by go_num,j.o⟩
    case measure=>simp[intOf];omega
   | false=>
    have z:=a rfl;subst z;have R:decide ((d:Int)<0)=false:=(by rw[zJ];omega);have U:decide ((256:Int)<=(d:Int))=false:=(by rw[zJ];omega);have S:¬(256:Int)<=(d:Int):=(by omega);have V:¬256<=d:=(by omega);clear a;go_wp2;go_roundw;case rel=>exact⟨k+1,by omega,by go_num,j.o⟩
    case measure=>simp[intOf];omega
  .go_wp2;go_ret;exact⟨rfl,c⟩
theorem Qq (x:Rq) (w:World) (h:∃p l c,x.v=.slice p l c):Calls prog 168 #[.agg #[x.n,x.v,.bool x.b]] w fun e w'=>e=.returned (.bool x.b)/\Below w w w':=by obtain⟨p,l,c,h⟩:=h;rw[h];obtain⟨g,a⟩:=zD x.n;obtain⟨f,d⟩:=zD x.b;rw[a.o,d.o];go_enter func168,ntmps168;go_wp2;go_ret;exact⟨rfl,zB.alloc zL _⟩
def barI (E:List Rq):Int:=match E.findIdx? fun x=>x.b with|some k=>(k:Int)|none=> -1
theorem Qp (v:Value) (E:List Rq) (w:World) (Y:xT w v 3 E.length (uU E)) (Z:∀x∈E,RqOk w x) (hl:E.length<=1000):
 Calls prog 167 #[v,.func (.func 168) #[] #[]] w fun e w'=>e=.returned (.int .i64 (barI E))/\Below w w w':=by
 obtain⟨p,X,rfl,I⟩:=gA Y;obtain⟨N,q⟩:=zD E.length;have S:=Lib.hid Z;rw[q.o]at hl I;rw[q.o];clear Y Z;go_enter func167,ntmps167;go_wp2;go_loopw [8] (fun i wr=>∃k:Nat,k<=N/\i=.int .i64 k/\Hid (∀j (c:j<E.length),j<k->E[j].b=false)/\Below w w wr) (fun i _=>N-(intOf i).toNat);case atStart=>exact⟨0,ye _,rfl,fun j _ c=>by omega,zB⟩
 case round=>
  obtain⟨k,V,rfl,B,m⟩:=hrel;by_cases t:k<N
  .obtain⟨g,o,rfl,u,r⟩:=I.o (by omega);have d:k<E.length:=(by rw[q.o];exact t);obtain⟨D,C,F⟩:=fJ E k d;obtain⟨K,M,O,h,_,_⟩:=(S.o E[k] (zz d)).shape;have s:=Lib.hid (fun W=>Qq E[k] W ⟨K,M,O,h⟩);rw[h]at C s;have T:=(m.cell (p:=⟨g,o+k*3,none⟩) u).trans (r _ _ D);have P:=(m.cell (p:=⟨g,o+(k*3+1),none⟩) u).trans (r _ _ C);have G:=(m.cell (p:=⟨g,o+(k*3+2),none⟩) u).trans (r _ _ F);rw[<-yA]at P G;obtain⟨U,z⟩:=zD (E[k].n);obtain⟨Q,l⟩:=zD (E[k].b);rw[z.o]at T s;rw[l.o]at G s;have H:(k:Int)<(N:Int):=(by omega);clear r D C F h;go_wp2_with fail
   refine (s.o _).mono ?_;cases Q with
   | true=>
    have y:Hid (barI E=(k:Int)):=(by show _=_;unfold barI;have:E.findIdx? (fun x=>x.b)=some k:=(by rw[xJ];exact⟨d,l.o,fun j c=>by simpa using B.o j (by omega) c⟩);rw[this]);rintro e J ⟨rfl,a⟩;have f:=Below.step m a;clear a;go_wp2;go_ret;rw[y.o];exact⟨rfl,f⟩
   | false=>
    have A:Hid (∀j (c:j<E.length),j<k+1->E[j].b=false):=fun j c L=>by
     by_cases e:j=k
     .subst e;exact l.o
     .exact B.o j c (by omega)
    rintro e J ⟨rfl,a⟩;have f:=Below.step m a;clear a;go_wp2;go_roundw;case rel=>exact⟨k+1,by omega,by go_num,A,f⟩
    case measure=>simp[intOf];omega
  .have y:Hid (barI E = -1):=(by show _=_;unfold barI;have:E.findIdx? (fun x=>x.b)=none:=(by rw[vW];intro x R;obtain⟨j,c,rfl⟩:=vn R;exact B.o j c (by rw[q.o]at c;omega));rw[this]);go_wp2;go_ret;rw[y.o];exact⟨rfl,m⟩
structure Jw where
 n:Nat
 v:Value
 D:List Int
def jab (x:Jw):Wr:=(x.n,x.D)
def jec (x:Jw):Nat×Value:=(x.n,x.v)
def ni (E:List Jw):List Value:=nj (E.map jec)
theorem IG (a b:List Jw):ni (a++b)=ni a++ni b:=by unfold ni;rw[yB,IJ]
theorem Zw (E:List Jw) (k:Nat) (a:k<E.length):(ni E)[k*2]?=some (.int .i64 (E[k].n:Int))/\(ni E)[k*2+1]?=some E[k].v:=by have:=JE (E.map jec) k (by simpa using a);simpa[ni,jec]using this
def JwOk (w:World) (x:Jw):Prop:=x.n<256/\vC w x.v x.D/\x.D.length=64
theorem JwOk.below {x:Jw} (h:JwOk w x) (a:Below w w w'):JwOk w' x:=⟨h.1,xT.below h.2.1 a,h.2.2⟩
def qW (w:World) (base:Nat) (x:Jw):Prop:=x.n<256/\x.D.length=64/\∃g cap cur,x.v=.slice (some ⟨g,0,none⟩) 64 cap/\(base<=g/\64<=cap)/\w.heap[g]?=some (.cells cur 5)/\cur.toList.take 64=u8s x.D
theorem qW.ok {x:Jw} (h:qW w base x):JwOk w x:=by obtain⟨d,a,g,e,b,i,_,f,c⟩:=h;refine⟨d,?_,a⟩;rw[i];exact qZ a f c
theorem qW.keep {x:Jw} (h:qW w base x) (m:∀i c,base<=i->w.heap[i]?=some (.cells c 5)->w'.heap[i]?=w.heap[i]?):qW w' base x:=by obtain⟨k,j,g,b,a,l,d,e,f⟩:=h;exact⟨k,j,g,b,a,l,d,(m g a d.1 e).trans e,f⟩
theorem qW.mono {x:Jw} (h:qW w base x) (k:base'<=base):qW w base' x:=by obtain⟨f,e,g,b,a,j,c,i,d⟩:=h;exact⟨f,e,g,b,a,j,⟨zr k c.1,c.2⟩,i,d⟩
theorem qW.one {x:Jw} (h:qW w base x):x.v.oneCell'=true:=by obtain⟨e,d,g,b,a,c,_⟩:=h;rw[c];rfl
theorem JwOk.shape {x:Jw} (h:JwOk w x):∃p c,x.v=.slice p 64 c:=by
 obtain⟨_,⟨_,⟨e,_⟩|⟨g,o,a,b,_⟩⟩,d⟩:=h
 .omega
 .exact⟨_,a,by rw[b,d]⟩
def me (w:World) (v:Value) (E:List Jw):Prop:=xT w v 2 E.length (ni E)/\∀x∈E,JwOk w x
theorem me.below {E:List Jw} (h:me w v E) (b:Below w w w'):me w' v E:=⟨xT.below h.1 b,fun x a=>(h.2 x a).below b⟩
theorem WE {E:List Jw} (h:xT w v 2 E.length (ni E)):∃p cp,v=.slice p E.length cp/\Hid (0<E.length->∃g o,p=some ⟨g,o,none⟩/\g<w.heap.size/\∀(j:Nat) (x:Value),(ni E)[j]?=some x->w.cell? ⟨g,o+j,none⟩=some x):=by
 obtain⟨_,⟨b,d,e,rfl⟩|⟨g,o,a,rfl,c⟩⟩:=h
 .exact⟨d,e,by rw[b],fun h=>by omega⟩
 .exact⟨_,a,rfl,fun b=>⟨g,o,rfl,zG (c _ _ (Zw E 0 b).1),c⟩⟩
def qA (w:World) (b B:Nat) (v:Value) (E:List Jw):Prop:=w.ownsRow b 163 2 v E.length (ni E)/\∀x∈E,qW w B x
theorem qA.at {E:List Jw} (h:qA w b B v E):me w v E:=⟨xT.of_owns h.1,fun x a=>(h.2 x a).ok⟩
theorem qA.below {E:List Jw} (h:qA w b B v E) (e:Below w w w'):qA w' b B v E:=
 ⟨oT h.1 fun q a=>e.block q (h.1.lt q a).2,fun x d=>(h.2 x d).keep fun i _ _ c=>e.block i (xL c)⟩
theorem Z6 (n:Int) (K:0<=n/\n<4294967296) (v:Value) (b:List Int) (w:World) (h:vC w v b) (L:b.length<=1000000):
 Calls prog 134 #[.int .u32 n,v] w fun e w'=>e=.returned (.int .u32 (sumB n b))/\w=w':=by
 obtain⟨N,l⟩:=zD b.length;obtain⟨p,J,G,H⟩:∃p c,v=.slice p N c/\Hid (0<N->∃g o,p=some ⟨g,o,none⟩/\∀(j:Nat) (x:Value),(u8s b)[j]?=some x->w.cell? ⟨g,o+j,none⟩=some x):=by
  rw[<-l.o];obtain⟨_,⟨B,F,t,rfl⟩|⟨g,o,s,rfl,m⟩⟩:=h
  .exact⟨F,t,by rw[B],fun h=>by omega⟩
  .exact⟨_,s,rfl,fun _=>⟨g,o,rfl,m⟩⟩
 subst G;rw[l.o]at L;clear h;go_enter func134,ntmps134;go_wp2
 go_loop [0,9] (fun a i=>∃(k:Nat) (q:Int),k<=N/\i=.int .i64 k/\a=.int .u32 q/\0<=q/\q<4294967296/\Hid (sumB n (b.take k)=q)) (fun _ i=>N-(intOf i).toNat)
 case atStart=>exact⟨0,n,ye _,rfl,rfl,K.1,K.2,rfl⟩
 case round=>
  obtain⟨k,q,I,rfl,rfl,D,A,u⟩:=hrel;by_cases r:k<N
  .obtain⟨g,o,rfl,m⟩:=H.o (by omega);have d:k<b.length:=(by rw[l.o];exact r);obtain⟨c,y⟩:=zD (b[k]);have t:=m k _ (sJ b k d);rw[y.o]at t;have z:=Jd q c;have E:Hid (sumB n (b.take (k+1))=gR q c):=(by show _=_;rw[<-zY d,QH,u.o,y.o]);have f:=Lib.hid z;clear m z;go_wp2
   go_round
   case rel=>exact⟨k+1,gR q c,by omega,by go_num,rfl,f.o.1,f.o.2,E⟩
   case measure=>simp[intOf];omega
  .have C:Hid (sumB n b=q):=(by have:=u.o;rw[zv (by rw[l.o];omega)]at this;exact this);go_wp2;go_ret;rw[C.o];exact⟨rfl,rfl⟩
theorem TL (n:Int) (a:0<=n) (b:n<4294967296) (w:World):Calls prog 93 #[.int .u32 n] w fun e w'=>e=.returned (.slice (some ⟨w.heap.size,0,none⟩) 4 4)/\w'=w.alloc (.cells (u8s (uS n)).toArray 5):=by
 go_enter func93,ntmps93
 go_wp2;go_ret;exact⟨rfl,by simp[u8s,uS]⟩
theorem gC (a b c d:Int) (g o m k:Nat) (l:4<=m) (w:World) (n:w.cell? (g,o)=some (.int .u8 a)) (p:w.cell? (g,o+1)=some (.int .u8 b)) (q:w.cell? (g,o+2)=some (.int .u8 c)) (r:w.cell? (g,o+3)=some (.int .u8 d)):
 Calls prog 139 #[(g,o,m,k)] w fun e w'=>e=.returned (.int .u32 (rdB a b c d))/\Below w w w':=by
 have j:0<m:=by omega
 have f:1<m:=by omega
 have h:2<m:=by omega
 have i:3<m:=by omega
 go_enter func139,ntmps139
 go_wp2
 go_quiet (fail)
 go_wp2;go_ret;exact⟨rfl,⟨rfl,rfl,rfl,zL,fun _ _=>rfl⟩⟩
theorem YK (v:Value) (E:List Jw) (w:World) (h:me w v E) (hl:E.length<=1000):
 Calls prog 94 #[v] w fun e w'=>e=.returned (.int .u32 (sumW (E.map jab)))/\Below w w w':=by
 have HE:=Lib.hid h.2;obtain⟨p,cp,rfl,V⟩:=WE h.1;obtain⟨N,J⟩:=zD E.length;rw[J.o]at V hl;rw[J.o];clear h;go_enter func94,ntmps94;go_wp2;go_loopw [3,8] (fun a i wr=>∃(k:Nat) (q:Int),k<=N/\i=.int .i64 k/\a=.int .u32 q/\0<=q/\q<4294967296/\Hid (sumW ((E.take k).map jab)=q)/\Below w w wr) (fun _ i _=>N-(intOf i).toNat);case atStart=>exact⟨0,2166136261,ye _,rfl,rfl,by omega,by omega,rfl,zB⟩
 case round=>
  obtain⟨k,q,hk,rfl,rfl,C,s,S,B⟩:=hrel;by_cases L:k<N
  .obtain⟨g,o,rfl,M,R⟩:=V.o (by omega);have l:k<E.length:=(by rw[J.o];exact L);obtain⟨I,K⟩:=Zw E k l;have c:=HE.o E[k] (zz l);have d:sumW ((E.take (k+1)).map jab)=sumB (sumB q [(E[k].n:Int)]) E[k].D:=(by rw[<-zY l,yB];show sumW (_++[jab E[k]])=_;rw[XE,S.o];rfl);generalize E[k]=x at I K c d;obtain⟨b,xv,P⟩:=x;obtain⟨j,m,y⟩:=c.shape;dsimp only at y I K d;subst y;have c0:=(B.cell (p:=⟨g,o+k*2,none⟩) M).trans (R _ _ I);have X:=(B.cell (p:=⟨g,o+(k*2+1),none⟩) M).trans (R _ _ K);rw[<-yA]at X;have Y:b<256:=c.1;have U:(k:Int)<(N:Int):=(by omega);have ab:g<wr.heap.size:=zm M B.size;have Z:¬g=wr.heap.size:=(by omega);have f:=kQ ⟨C,s⟩ [(b:Int)];obtain⟨T,z⟩:=zD (sumB q [(b:Int)]);rw[z.o]at d f;have G:=kQ f P;have O:=Lib.hid d;have A:=Lib.hid G;have t:Below wr wr (wr.alloc (.cells #[b,.slice j 64 m] 163)):=zB.alloc zL _;have H:Below wr wr ((wr.alloc (.cells #[b,.slice j 64 m] 163)).alloc (.cells (u8s [(b:Int)]).toArray 5)):=t.alloc (by simp) _;have F:Hid (Below w w ((wr.alloc (.cells #[b,.slice j 64 m] 163)).alloc (.cells (u8s [(b:Int)]).toArray 5))):=Below.step B H;have r:=zT (wr.alloc (.cells #[b,.slice j 64 m] 163)) (.cells (u8s [(b:Int)]).toArray 5);rw[show (wr.alloc (.cells #[b,.slice j 64 m] 163)).heap.size=wr.heap.size+1 by simp]at r;have u:=Lib.hid (Z6 q ⟨C,s⟩ (.slice (some ⟨wr.heap.size+1,0,none⟩) 1 1) [(b:Int)] _ (qZ (n:=1) rfl r (by simp[u8s])) (by simp));rw[z.o]at u;have Q:=Lib.hid (Z6 T f (.slice j 64 m) P ((wr.alloc (.cells #[b,.slice j 64 m] 163)).alloc (.cells (u8s [(b:Int)]).toArray 5)) (xT.below c.2.1 F.o) (by rw[c.2.2];omega));clear R I K c d f G t H r;go_wp2_with fail
   refine u.o.mono ?_;rintro e w' ⟨rfl,rfl⟩;go_wp2_with fail
   refine Q.o.mono ?_;rintro e w' ⟨rfl,rfl⟩;go_wp2;go_roundw;case rel=>exact⟨k+1,sumB T P,by omega,by go_num,rfl,A.o.1,A.o.2,O,F.o⟩
   case measure=>simp[intOf];omega
  .have W:Hid (sumW (E.map jab)=q):=(by have:=S.o;rw[zv (by rw[J.o];omega)]at this;exact this);go_wp2;go_ret;rw[W.o];exact⟨rfl,B⟩
