import Derived.Test.YtmanoiagchpelaaGreatDoorKA1
import Derived.Test.YtmanoiagchpelaaGreatDoorKA3
import Derived.Test.YtmanoiagchpelaaGreatDoorKA12
set_option maxHeartbeats 0
set_option linter.all false
set_option maxRecDepth 100000
namespace Go.Proofs.YtmanoiagchpelaaGreatDoor
open Go.Proofs.Tryz Go.RowKit
variable {N:Nat->List Int} {k:Nat} {w:World}
structure Rdr where
 T:TypeId
 u:Value
 fr:Nat
 fs:Nat
 rr:Value
 rs:Value
structure RdAt (w:World) (r:Rdr) (N:Nat->List Int) (k:Nat):Prop where
 n1 : ∀ W : World, (nilAhead 444 r.T r.u "Read").run prog W = .ok (some false) W
 n2 : ∀ W : World, (nilAhead 444 r.T r.u "Size").run prog W = .ok (some false) W
 m1 : ∀ W : World, (method 444 r.T r.u "Read").run prog W = .ok (r.fr, r.rr) W
 m2 : ∀ W : World, (method 444 r.T r.u "Size").run prog W = .ok (r.fs, r.rs) W
 c1:∀(x:Value) (W:World),(callFunc r.fr #[r.rr,x]).run prog W=.ok (.enter r.fr #[r.rr,x]) W
 c2:∀W:World,(callFunc r.fs #[r.rs]).run prog W=.ok (.enter r.fs #[r.rs]) W
 read:∀w':World,Below w w w'->∀n:Nat,n<k->Calls prog r.fr #[r.rr,n] w' (Vp (N n) w')
 size:∀w':World,Below w w w'->Calls prog r.fs #[r.rs] w' fun e w2=>e=.returned k/\Below w' w' w2
 len:∀n,n<k->(N n).length=64
 byte:∀n,n<k->∀x∈N n,0<=x/\x<=255
theorem RdAt.below {w1:World} {r:Rdr} (h:RdAt w r N k) (c:Below w w w1):RdAt w1 r N k:=
 ⟨h.n1,h.n2,h.m1,h.m2,h.c1,h.c2,fun a b=>h.read a (zf c b),fun a b=>h.size a (zf c b),h.len,h.byte⟩
def rowB (bs:List Int) (i:Nat):Int×Int:=(bs.getD (3*i+1) 0,bs.getD (3*i+2) 0+bs.getD (3*i+3) 0*256)
def rn (bs:List Int):List (Int×Int):=(List.range (bs.getD 0 0).toNat).map (rowB bs)
def lQ (bs:List Int):Prop:=bs.length=64/\bs.getD 0 0<=20/\rd (rn bs)=0/\sA (rn bs).length (rn bs)=bs
def js (bs:List Int) (w:World) (e:Ending) (w':World):Prop:=
 (lQ bs/\∃v,e=.returned (.tuple #[v,()])/\w'.ownsRow w 187 2 v (rn bs).length (wY (rn bs))/\Below w w w') \/
 (¬lQ bs/\e=.returned (.tuple #[.slice none 0 0,(3:Int)])/\Below w w w')
theorem Kf (v) (bs) (w) (h:vQ w v bs) (n:bs.length≠64) (r:bs.length<=1000000):
 Calls prog 98 #[v] w (js bs w):=by
 have _:=r;obtain⟨N,a⟩:=zA bs.length;obtain⟨q,c,j⟩:∃p c,v=.slice p N c:=by
  rw[a.o];obtain⟨_,⟨k,d,e,rfl⟩|⟨g,o,b,rfl,m⟩⟩:=h
  .exact⟨d,e,by rw[k]⟩
  .exact⟨_,b,rfl⟩
 subst j;rw[<-a.o]at r n;have f:((N:Int) != 64)=true:=by rw[rQ];omega
 have i:Hid (¬lQ bs):=fun l=>n (a.o.trans l.1);clear h n;go_enter func98,ntmps98;go_wp2;go_ret2;exact zu ⟨i.o,rfl,zB⟩
theorem LH (bs) (g off cap) (b0) (w) (f:w.cell? ⟨g,off,none⟩=some (.int .u8 b0)) (d:Hid (b0=bs.getD 0 0)) (e:20<b0) (c:b0<=255):
 Calls prog 98 #[.slice (some ⟨g,off,none⟩) 64 cap] w (js bs w):=by
 have b:Hid (¬lQ bs):=fun a=>by have:=a.2.1;rw[<-d.o]at this;omega
 go_enter func98,ntmps98
 go_wp2;go_ret2;exact zu ⟨b.o,rfl,zB⟩
theorem ZP (l:List Int) (i) (h):l.getD i 0=l[i]:=by simp[h]
theorem SR (bs) (k) (x p q) (h:rowB bs k=(x,p+q*256)):(List.range (k+1)).map (rowB bs)=(List.range k).map (rowB bs)++[(x,p+q*256)]:=by rw[vI,yy,yF,vY,h]
theorem LI (bs) (g off cap) (N:Nat) (w) (hc:∀j (hj),w.cell? ⟨g,off+j,none⟩=some (.int .u8 bs[j])) (hn:bs.length=64) (hx:∀x,x∈bs->0<=x/\x<=255)
 (Hb:Hid (bs.getD 0 0=(N:Int))) (hN:N<=20):
 Calls prog 98 #[.slice (some ⟨g,off,none⟩) 64 cap] w (js bs w):=by
 have x0:w.cell? (g,off)=some (.int .u8 N):=by have:=hc 0 (by omega);rw[<-ZP bs 0 (by omega),Hb.o]at this;exact this
 have Y:=za hc;have d:=za hn;have HX:=za hx;have F:Hid (rn bs=(List.range N).map (rowB bs)):=by show _=_;unfold rn;rw[Hb.o];rfl
 have v:Hid ((rn bs).length=N):=by show _=_;rw[F.o];simp
 clear hc hn hx;obtain⟨i0,hi,H,T,P⟩:=xy ji;have HI:=za hi;have az:=za H;have a0:=za T;have ai:=za P;clear hi H T P;have Z:g<w.heap.size:=zG x0;have sN:IntKind.i64.wrap N=N:=zQ _ (by omega);go_enter func98,ntmps98;go_wp2;go_loopw [4,21] (fun o i wr=>∃(k:Nat) (a:List (Int×Int)),k<=N/\i=.int .i64 k/\Hid (a=(List.range k).map (rowB bs))/\a.length=k/\Hid (wr.ownsRow w 187 2 o a.length (wY a))/\Below w w wr) (fun _ i _=>N-(intOf i).toNat);case atStart=>exact⟨0,[],by omega,rfl,rfl,rfl,xd _ _ _ _,zB⟩
 case round=>
  obtain⟨k,a,hk,rfl,HA,u,J,m⟩:=hrel;have aS:=zo Z m.size;by_cases aB:k<N
  .have X:3*k+1<bs.length:=(by rw[d.o];omega);have D:3*k+2<bs.length:=(by rw[d.o];omega);have h3:3*k+3<bs.length:=(by rw[d.o];omega);have e1:=Y.o _ X;have e2:=Y.o _ D;have e3:=Y.o _ h3;have c1:=(m.cell (zG e1)).trans e1;have c2:=(m.cell (zG e2)).trans e2;have c3:=(m.cell (zG e3)).trans e3;obtain⟨aJ,aD⟩:=HX.o _ (zx X);obtain⟨ak,af⟩:=HX.o _ (zx D);obtain⟨aq,ae⟩:=HX.o _ (zx h3);have n:rowB bs k=(bs[3*k+1],bs[3*k+2]+bs[3*k+3]*256):=(by unfold rowB;rw[ZP _ _ X,ZP _ _ D,ZP _ _ h3]);generalize bs[3*k+1]=x at *
   generalize bs[3*k+2]=p at *
   generalize bs[3*k+3]=q at *
   obtain⟨y,Hy⟩:=zA (p+q*256);have am:Hid (a++[(x,y)]=(List.range (k+1)).map (rowB bs)):=(by show _=_;rw[SR bs k x p q n,<-HA.o,Hy.o]);have s1:=zW (3*k) (by omega);have s2:=zW (3*k+1) (by omega);have s3:=zW (3*k+2) (by omega);have s4:=zW (3*k+3) (by omega);have t2:(3*(k:Int)+1).toNat=3*k+1:=(by omega);have t3:(3*(k:Int)+2).toNat=3*k+2:=(by omega);have t4:(3*(k:Int)+3).toNat=3*k+3:=(by omega);have u2:0<=3*(k:Int)+1:=(by omega);have u3:0<=3*(k:Int)+2:=(by omega);have aI:0<=3*(k:Int)+3:=(by omega);have v2:3*(k:Int)+1<64:=(by omega);have v3:3*(k:Int)+2<64:=(by omega);have v4:3*(k:Int)+3<64:=(by omega);have w1:IntKind.i64.wrap x=x:=zQ _ (by omega);have w2:IntKind.i64.wrap p=p:=zQ _ (by omega);have w3:IntKind.i64.wrap q=q:=zQ _ (by omega);have C:=zW (q*256) (by omega);have aM:bits .or .i64 p (q*256)=y:=(by rw[iH _ _ ak af aq ae,Hy.o]);have hL:a.length<=20:=(by omega);have s:=(J.o.alloc (.cells #[x,y] 187)).lt;have G:=za s;clear s e1 e2 e3 n;have ag:Value.ownBlock u4≠some g:=fun hq=>(by have X:=(G.o g hq).1;omega);have AG:=za ag;have S:Hid (∀q,Value.ownBlock u4=some q->w.heap.size<=q):=fun q hq=>(G.o q hq).1;have a9:=m.size;clear ag x0;go_wp2_with fail
   go_region_held3 (fun w'=>w'.cell? (g,off+(3*k+1))=some (.int .u8 x)/\w'.cell? (g,off+(3*k+2))=some (.int .u8 p)/\w'.cell? (g,off+(3*k+3))=some (.int .u8 q))
    (first
     | go_keep
     | (
      go_split_ands
      refine⟨?_,?_,?_⟩
      ·(rw[b.cell_far _ (by simp;omega) (yA AG.out)];assumption)
      ·(rw[b.cell_far _ (by simp;omega) (yA AG.out)];assumption)
      ·(rw[b.cell_far _ (by simp;omega) (yA AG.out)];assumption)))
    ((
     refine tF _ (by rfl) _ _ _ (by rfl) w.heap.size 187 i0 _ 2 16 rowT HI.o az.o a0.o ai.o rfl (by omega) u4 a.length (wY a) (by rfl) ((J.o.alloc _).drew)
      ⟨wr.heap.size,0,none⟩ 1 1 [.int .i64 x,.int .i64 y] (by rfl) (by rfl) (xE (cs:=#[.int .i64 x,.int .i64 y]) (t:=187) (fr:=(0,0)) (zT wr _)) (by simp[Value.oneCell'])
      (by omega) (by unfold maxLen;omega) (by omega) (by simp;omega) (wr.heap.size+1) (by simp) ?_;intro gg I C r b av K))
   have al:Hid (C.ownsRow w 187 2 (gg,0,(k+1),I) (a++[(x,y)]).length (wY (a++[(x,y)]))):=(by show World.ownsRow _ _ _ _ _ _ _;rw[oZ,zm,<-u];exact r);have ar:=xB (lG (m.alloc m.size _) 1) b (by simp[World.drewN];omega) S.o;clear r b av K s1 s2 s3 s4 w1 w2 w3;go_wp2;go_roundw;case rel=>exact⟨k+1,a++[(x,y)],by omega,by go_num,am,by simp;omega,al,ar⟩
   case measure=>simp[intOf];omega
  .have Q:k=N:=(by omega);have aj:Hid (a=rn bs):=(by show _=_;rw[HA.o,F.o,Q]);have R:Hid (wr.ownsRow w 187 2 u4 (rn bs).length (wY (rn bs))):=(by have:=J.o;rw[aj.o]at this;exact this);have V:=za (wh.of_owns R.o);obtain⟨q2,c2,ho,_⟩:=tV J.o;rw[u]at ho;subst ho;clear u HA J;subst Q;by_cases U:rd (rn bs)=0
   .have HR:=za U;clear U;go_wp2_with fail
    refine (JS _ (rn bs) _ V.o HR.o).mono ?_;rintro e C ⟨g4,rfl,aQ,M,f⟩;have l:=zf m f;have E:Hid (vQ C (.slice (some ⟨g4,0,none⟩) 64 64) (sA (rn bs).length (rn bs))):=Xm (VJ _ _ (by rw[v.o];omega)) M;have ac:=za (tB R.o f);have ax:Hid (vQ C (.slice (some (g,off)) 64 cap) bs):=by
     refine⟨by rw[uo];omega,zu ⟨g,off,cap,by rw[d.o],fun j x hx=>?_⟩⟩;have hj:j<bs.length:=by
      rcases sk j bs.length with h|h
      .exact h
      .rw[yj (by rw[uo];omega)]at hx;cases hx
     rw[qg _ _ hj]at hx;cases hx;have:=Y.o j hj;exact (l.cell (zG this)).trans this
    have z:Hid ((sA (rn bs).length (rn bs)).length=64):=VJ _ _ (by rw[v.o];omega);obtain⟨PB,A⟩:=zD (sA (rn bs).length (rn bs));rw[A.o]at z E;clear M f;go_wp2_with fail
    refine (V1 _ _ _ bs _ E.o ax.o (by rw[z.o,d.o]) (by rw[z.o];omega)).mono ?_;obtain⟨q,Hq⟩:=zD (eqB PB bs);rw[Hq.o];rintro e w5 ⟨rfl,B⟩;have O:=zf l B;have ay:=za (tB ac.o B);clear B;cases q with
    | true=>
     have L:Hid (lQ bs):=⟨d.o,by rw[Hb.o];omega,HR.o,by rw[A.o];exact sM Hq.o⟩;go_wp2;go_ret2;exact zr ⟨L.o,_,rfl,ay.o,O⟩
    | false=>
     have L:Hid (¬lQ bs):=fun h=>(by have D:=h.2.2.2;rw[A.o]at D;exact zY (ya D) (by have:=Hq.o;unfold eqB at this;rw[this];simp));go_wp2;go_ret2;exact zu ⟨L.o,rfl,O⟩
   .have L:Hid (¬lQ bs):=fun h=>U h.2.2.1;obtain⟨c,W⟩:=zD (rd (rn bs));have ao:(c != 0)=true:=(by rw[rQ,<-W.o];exact U);clear U;go_wp2_with fail
    refine (PT _ (rn bs) _ V.o (by rw[v.o];omega) c W ao).mono ?_;rintro e C ⟨rfl,f⟩;have l:=zf m f;clear f;go_wp2;go_ret2;exact zu ⟨L.o,rfl,l⟩
theorem Iq (v) (bs) (w) (h:vQ w v bs) (l:∀x,x∈bs->0<=x/\x<=255) (m:bs.length<=1000000):
 Calls prog 98 #[v] w (js bs w):=by
 by_cases e:bs.length=64
 .obtain⟨_,⟨i,_⟩|⟨g,a,c,rfl,k⟩⟩:=h
  .omega
  .have b:∀j (f),w.cell? ⟨g,a+j,none⟩=some (.int .u8 bs[j]):=fun j f=>k j _ (qg bs j f);rw[e];have i:=l _ (zx (by omega:0<bs.length));by_cases d:20<bs[0]
   .exact LH bs g a c bs[0] w (b 0 (by omega)) (ZP bs 0 (by omega)).symm d i.2
   .exact LI bs g a c bs[0].toNat w b e l (by show _=_;rw[ZP bs 0 (by omega)];omega) (by omega)
 .exact Kf v bs w h e m
def tT (N:Nat->List Int) (p:Int):List Int:=if p=0 then List.replicate 64 0 else N p.toNat
def qc (N:Nat->List Int) (P:List Int) (n:Nat):List Int:=(P.take n).flatMap (tT N)
def tO (N:Nat->List Int) (P:List Int) (s:Int):List Int:=(P.flatMap (tT N)).take s.toNat
def ml (P:List Int) (k:Nat):Prop:=∀p∈P,0<=p/\p<k
theorem UX (N) (P) (n) (h):qc N P (n+1)=qc N P n++tT N P[n]:=by unfold qc;rw[sO,zh h,vt];simp
theorem Il (a:∀n,n<k->(N n).length=64) {p:Int} (b:0<=p) (c:p<k):(tT N p).length=64:=by
 unfold tT;split
 .simp
 .exact a _ (by omega)
theorem Ie {N:Nat->List Int} {k:Nat} (b:∀n,n<k->(N n).length=64) {P:List Int} (c:ml P k):∀n,n<=P.length->(qc N P n).length=64*n
 | 0,_=>by simp[qc]
 | n+1,h=>by have a:=c P[n] (zx (by omega));rw[UX N P n (by omega),zm,Ie b c n (by omega),Il b a.1 a.2];omega
theorem Ig (N) (P):qc N P P.length=P.flatMap (tT N):=by unfold qc;rw[xJ]
def sJ (w:World) (B:Nat) (v:Value) (D:List Int):Prop:=∃g cap cur,v=.slice (some ⟨g,0,none⟩) 64 cap/\D.length=64/\64<=cap/\B<=g/\w.heap[g]?=some (.cells cur 5)/\cur.toList.take 64=u8s D
theorem sJ.cell {g _B _cap:Nat} {cur:Array Value} {D:List Int} (f:D.length=64) (d:w.heap[g]?=some (.cells cur 5)) (e:cur.toList.take 64=u8s D):∀(j) (u),(u8s D)[j]?=some u->w.cell? ((⟨g,0,none⟩:Addr).add j)=some u:=fun j u b=>by
 have a:(⟨g,0,none⟩:Addr).add j=⟨g,j,none⟩:=by unfold Addr.add;split<;>simp_all
 have c:=(zJ.1 b).1;rw[uo]at c;rw[a,zC d,<-zO];rw[<-e,zI,ze (by omega)]at b;exact b
theorem Vg {r:Rdr} (h:RdAt w r N k) (kd m u g s l up) (v) (P) (hv:vT w v P) (hl:P.length<=8) (hP:ml P k) (hs:0<=s) (az:s<=512):
 Calls prog 79 #[.iface r.T r.u,.agg #[.int .i64 kd,.int .i64 m,.int .i64 u,.int .i64 g,.int .i64 s,.int .i64 l,.int .i64 up,v]] w
  (fun e w'=>∃v',e=.returned v'/\w'.ownsRow (w.heap.size+1) 5 1 v' (tO N P s).length (u8s (tO N P s))/\Below w w w'):=by
 have q1:=h.n1;have q2:=h.m1;have q3:=h.c1;have HR:=za h;have aj:=za hP;obtain⟨n,HN⟩:=zD P.length;have br:n<=8:=by rw[<-HN.o];exact hl
 obtain⟨p,cp,V,HP⟩:=Z6 hv;rw[HN.o]at V HP;subst V;have HV:=za hv;clear h hv hP hl;obtain⟨i0,ao,ab,au,al⟩:=xy fW;have aS:=za ao;have aD:=za ab;have a5:=za au;have aJ:=za al;clear ao ab au al;obtain⟨Z,HZ⟩:=zA (List.replicate 64 (0:Int));have bo:∀W,(Instr.makeSlice 56 (.int .i64 64) (.int .i64 64)).run prog W=.ok (.slice (some ⟨W.heap.size,0,none⟩) 64 64) (W.alloc (.cells (u8s Z).toArray 5)):=fun W=>by rw[HZ.o];exact jB 64 64 rfl (by omega) W
 go_enter func79,ntmps79
 go_wp2;obtain⟨w1,C⟩:=zD (w.alloc (.cells #[kd,m,u,g,s,l,up,(p,n,cp)] 123));rw[C.o];have M:Hid (Below w w w1):=by show _;rw[<-C.o];exact zB.alloc zL _
 have aH:Hid (w1.heap[w.heap.size]?=some (.cells #[kd,m,u,g,s,l,up,(p,n,cp)] 123)):=by show _=_;rw[<-C.o];exact zH
 have A:Hid (w1.heap.size=w.heap.size+1):=by show _=_;rw[<-C.o];simp
 go_loopw [5,14] (fun o i wr=>∃j:Nat,j<=n/\i=.int .i64 j/\Hid (wr.ownsRow (w.heap.size+1) 5 1 o (64*j) (u8s (qc N P j)))/\Hid (Below w1 w1 wr)) (fun _ i _=>n-(intOf i).toNat)
 case atStart=>exact⟨0,ye _,rfl,xd _ _ _ _,zB⟩
 case round=>
  obtain⟨j,hj,rfl,HO,E⟩:=hrel;by_cases aC:j<n
  .obtain⟨gp,op,rfl,hc⟩:=HP.o (by omega);have B:j<P.length:=(by rw[HN.o];exact aC);have K:=aj.o P[j] (zx B);have cj:=hc j _ (mu P j B);have aB:=zG cj;have cj:=((zf M.o (E.o)).cell (p:=⟨gp,op+j,none⟩) aB).trans cj;have ac:=za (UX N P j B);have ae:=za (Il HR.o.len K.1 K.2);obtain⟨x,Hx⟩:=zD (P[j]' B);rw[Hx.o]at K cj ac ae;have av:j<(n:Int):=by omega
   go_upto_if 20 with fail
   go_cut [8] (fun b wx=>Hid (sJ wx (w.heap.size+1) b (tT N x))/\Hid (Below wr wr wx))
   case first=>
    by_cases d:x=0
    .have b0:(x != 0)=false:=(by simp[d]);have J:Hid (tT N x=Z):=(by show _=_;rw[HZ.o,d];rfl);have aa:Hid (Z.length=64):=(by show _=_;rw[HZ.o];simp);subst d;go_wp2
     go_meet
     case rel=>
      refine⟨?_,?_⟩
      .rw[J.o];exact⟨_,_,_,rfl,aa.o,zL,zt (vM A.o.symm) E.o.size,zH,by rw[zv (by rw[xX,uo,aa.o];exact zL)]⟩
      .exact zB.alloc zL _
    .have b0:(x != 0)=true:=(by simpa using d);obtain⟨y,Hy⟩:∃y:Nat,Hid (x=(y:Int)):=⟨x.toNat,by show _=_;omega⟩;have J:Hid (tT N x=N y):=(by show _=_;unfold tT;rw[zb d,Hy.o];rfl);have ay:y<k:=(by have:=Hy.o;omega);have ad:=za (HR.o.read (wr.alloc (.cells (u8s Z).toArray 5)) (zf (zf M.o E.o) (zB.alloc zL _)) y ay);have ak:=za (HR.o.len y ay);rw[<-Hy.o]at ad;clear d;go_wp2_with fail
     refine ad.o.mono ?_;rintro e w3 ⟨v3,rfl,aO⟩;obtain⟨g3,U,an,rfl,a,aq,O,ah⟩:=aO;rw[ak.o]at a O ⊢;have aG:=za aq;have aT:=za O;have aM:=za ah;clear aq O ah;go_wp2
     go_meet
     case rel =>refine⟨?_,zf (zB.alloc zL _) aM.o⟩;rw[J.o];exact⟨g3,U,an,rfl,ak.o,a.2,zt (zt (vM A.o.symm) (zt E.o.size (by simp))) a.1,aG.o,aT.o⟩
   case rest=>
    obtain⟨⟨gb,cb,bn,rfl,aK,bt,aw,af,X⟩,D⟩:=hcut;have aE:=za (sJ.cell (_B:=w.heap.size+1) (_cap:=cb) aK af X);have ai:=za (tB HO.o D.o);have bg:=za aw;clear af X aw cj;have be:j<=8:=(by omega);have aL:Hid ((u8s (tT N x)).length=64):=(by show _=_;rw[uo,ae.o]);have a6:=za (mG (tT N x));have a3:=za (zt (vM A.o.symm) (zt E.o.size D.o.size));go_wp2_with (at_builtin;refine yI _ rfl _ _ 56 rfl (w.heap.size+1) 5 i0 (.int .u8 0) 1 1 u8sT aS.o aD.o a5.o aJ.o rfl (by decide) _ _ _ rfl ai.o ⟨gb,0,none⟩ 64 cb (u8s (tT N x)) rfl (by rw[aL.o]) aE.o a6.o (by unfold maxLen;omega) (by omega) a3.o ?_;intro v5 w5 H f S)
    have a9:Hid (w5.ownsRow (w.heap.size+1) 5 1 v5 (64*(j+1)) (u8s (qc N P (j+1)))):=(by show _;rw[ac.o,pC,show 64*(j+1)=64*j+64 by omega];exact H);have aQ:=za (xB (zf E.o D.o) f (zt E.o.size D.o.size) (fun q hq=>by rw[A.o];exact (ai.o.lt q hq).1));clear H f S;go_wp2;go_roundw;case rel=>exact⟨j+1,by omega,by go_num,a9,aQ⟩
    case measure=>simp[intOf];omega
  .obtain rfl:j=n:=(by omega);have av:¬(j<(j:Int)):=(by omega);have HF:Hid (wr.cell? (w.heap.size,4)=some (.int .i64 s)):=zC (wy E.o aH.o);obtain⟨L,HL⟩:∃L:Nat,Hid (64*j=L):=⟨_,rfl⟩;obtain⟨t,HT⟩:∃t:Nat,Hid (s=(t:Int)):=⟨s.toNat,by show _=_;omega⟩;have hF:=HF.o;rw[HT.o]at hF;rw[HL.o]at HO;have a1:Hid (qc N P j=P.flatMap (tT N)):=(by show _=_;rw[<-HN.o];exact Ig N P);have z:Hid ((qc N P j).length=L):=(by show _=_;rw[<-HL.o];exact Ie HR.o.len aj.o j (by rw[HN.o];exact zL));have c:Hid (tO N P s=(qc N P j).take t):=(by show _=_;unfold tO;rw[<-a1.o,HT.o];rfl);have F:=za (zf M.o E.o);obtain⟨a0,⟨hv,h0⟩|⟨gq,R,I,rfl,aF,hh,bd,ax,ag,ht⟩⟩:=id HO.o
   .subst hv;have aA:L=0:=(by have:=z.o;omega);subst aA;go_wp2;all_goals (go_ret;refine⟨_,rfl,?_,F.o⟩)
    all_goals (
     rw[c.o];have e:(qc N P j).take t=[]:=(by have:=z.o;rw[yR]at this;rw[this];simp);rw[e];exact xd _ _ _ _)
   .have HH:=za hh;have a2:=za ht;have a8:=za ax;have aR:=za ag;clear hh ht ax ag a0;have G:∀x,x<=L->(tO N P s)=(qc N P j).take x->wr.ownsRow (w.heap.size+1) 5 1 (.slice (some ⟨gq,0,none⟩) x R) (tO N P s).length (u8s (tO N P s)):=fun x hx e=>(by have Y:((qc N P j).take x).length=x:=(by rw[zj,z.o];omega);rw[e,Y];refine⟨by rw[uo,Y];omega,zu ⟨gq,R,I,rfl,aF,HH.o,by omega,a8.o,aR.o,?_⟩⟩;have e2:I.toList.take (x*1)=(I.toList.take (L*1)).take x:=(by rw[vj];congr 1;omega);rw[e2,a2.o,oV]);have Q:=za G;clear G;by_cases aP:t<=L
    .have e1:t<=(L:Int):=(by omega);have e2:t<=(R:Int):=(by omega);have e3:t<=R:=(by omega);have e4:¬(L<(t:Int)):=(by omega);have e5:¬L<t:=(by omega);go_wp2;all_goals go_ret
     all_goals first|exact⟨_,rfl,Q.o t aP c.o,F.o⟩|(refine⟨_,rfl,Q.o L zL ?_,F.o⟩;rw[c.o];congr 1;omega)
    .have e1:¬t<=(L:Int):=(by omega);have e3:L<=R:=(by omega);have e2:L<=(R:Int):=(by omega);have e4:L<(t:Int):=(by omega);have e5:L<t:=(by omega);go_wp2;all_goals go_ret
     all_goals refine⟨_,rfl,Q.o L zL ?_,F.o⟩
     all_goals rw[c.o,zv (by rw[z.o];omega),zv (by rw[z.o];omega)]
end Go.Proofs.YtmanoiagchpelaaGreatDoor
namespace Go.Proofs.YtmanoiagchpelaaGreatDoor
open Go.Proofs.Tryz
variable {B b base base' h k:Nat} {L l:List Rb} {N:List Int} {P:List Wr} {st:Dk} {v:Value} {w w':World}
def doE (st:Dk) (x:Rb):Dk:=if x.2.2=true then pU st else se st x.1 x.2.1
def runE (st:Dk) (l:List Rb):Dk:=l.foldl doE st
theorem KD (st) (l) (x):runE st (l++[x])=doE (runE st l) x:=by unfold runE;rw[xG];rfl
theorem ZT (st) (a b):runE st (a++b)=runE (runE st a) b:=by unfold runE;rw[xG]
theorem qY (st) (x):(doE st x).W.length<=st.W.length+1:=by
 unfold doE;split
 .have:=Qu st;omega
 .exact V6 _ _ _
theorem fX (st) (l):(runE st l).W.length<=st.W.length+l.length:=by
 induction l generalizing st with
 | nil=>exact zL
 | cons x l a=>
  have c:=a (doE st x);have b:=qY st x;show (runE (doE st x) l).W.length<=_;rw[yx];omega
structure On (st:Dk) (k:Nat):Prop where
 fu:st.fu = -1
 n:st.N.length=64*k
def RbOk (k:Nat) (x:Rb):Prop:=x.2.2=true\/(x.1<k/\x.2.1.length=64)
def WrOk (k:Nat) (x:Wr):Prop:=x.1<k/\x.2.length=64
theorem Zg (h:On st k):pU st={S:=st.N,N:=st.N,W:=[],fu:= -1}:=by unfold pU;rw[zb (by rw[h.fu];decide),h.fu];rfl
theorem ZQ (h:On st k) (n) (D):se st n D={S:=st.S,N:=putS st.N n D,W:=st.W++[(n,D)],fu:= -1}:=by unfold se;rw[zb (by rw[h.fu];decide),h.fu];rfl
theorem On.flush (h:On st k):On (pU st) k:=by rw[Zg h];exact⟨rfl,h.n⟩
theorem On.do (h:On st k) {x:Rb} (d:RbOk k x):On (doE st x) k:=by
 unfold doE;split
 .exact h.flush
 .rename_i c;rcases d with d|⟨a,b⟩
  .exact zY d c
  .rw[ZQ h];exact⟨rfl,jE h.n a b⟩
theorem On.run:∀{st},On st k->(∀x∈l,RbOk k x)->On (runE st l) k:=by
 induction l with
 | nil=>intro st h _;exact h
 | cons x l c=>intro st h a;exact c (h.do (a x (by simp))) fun y b=>a y (by simp[b])
theorem Qo (k):On (uZ k) k:=⟨rfl,by unfold uZ;simp⟩
def lL (N:List Int) (P:List Wr):List Int:=P.foldl (fun N x=>putS N x.1 x.2) N
theorem Mu (N) (P) (x):lL N (P++[x])=putS (lL N P) x.1 x.2:=by unfold lL;rw[xG];rfl
theorem KR (P) (c:N.length=64*k) (d:∀x∈P,WrOk k x):(lL N P).length=64*k:=by
 induction P generalizing N with
 | nil=>exact c
 | cons x P a=>
  have:=d x (by simp);exact a (jE c this.1 this.2) fun y b=>d y (by simp[b])
theorem Mt (l:N.length=64*k) (i:∀x∈P,WrOk k x) (m) (n:m<k):∀j,j<=P.length->sec (lL N (P.take j)) m=(sC (P.take j) m).getD (sec N m):=by
 intro j
 induction j with
 | zero=>intro _;rfl
 | succ j f=>
  intro g;have a:j<P.length:=by omega
  have b:=i P[j] (zx a);have c:=KR (P.take j) l fun y d=>i y (yY d);rw[<-zR a,Mu,UM];by_cases e:P[j].1=m
  .rw[ze e,<-e,VW c b.1 b.2];rfl
  .rw[zb e,Yg c b.1 n b.2 (fun h=>e h.symm)];exact f (by omega)
theorem KQ (a:N.length=64*k) (b:∀x∈P,WrOk k x) (m) (c:m<k):sec (lL N P) m=(sC P m).getD (sec N m):=by
 have:=Mt a b m c P.length zL
 rwa [xJ]at this
theorem lD (b:h<256) (c:∀x∈P,WrOk k x):∀x∈tt P h,WrOk k x:=by intro x a;exact c _ (VM P x.1 x.2 ((Zn P h b x).1 a).2)
theorem UO (e:k<=256) (d:h<256) (b:N.length=64*k) (c:∀x∈P,WrOk k x):lL N (tt P h)=lL N P:=by refine Tt (KR _ b (lD d c)) (KR _ b c) fun m a=>?_;rw[KQ b (lD d c) m a,KQ b c m a,J2 P h m d (by omega)]
theorem ZM (c:∀x∈P,WrOk k x):∀x∈emit P,RbOk k x:=by intro x b;obtain⟨y,a,rfl⟩:=zU.1 b;exact zu (c y a)
theorem ZS:∀{st},On st k->(∀x∈P,WrOk k x)->(runE st (emit P)).N=lL st.N P/\(runE st (emit P)).S=st.S:=by
 induction P with
 | nil=>intro st _ _;exact⟨rfl,rfl⟩
 | cons x P d=>
  intro st h a;have f:=a x (by simp);have e:doE st (x.1,x.2,false)=se st x.1 x.2:=by unfold doE;rw[zb (by simp)]
  have b:=d (st:=doE st (x.1,x.2,false)) (h.do (zu f)) fun y c=>a y (by simp[c]);show (runE (doE st (x.1,x.2,false)) (emit P)).N=lL (putS st.N x.1 x.2) P/\(runE (doE st (x.1,x.2,false)) (emit P)).S=_;rw[b.1,b.2,e,ZQ h];exact⟨rfl,rfl⟩
theorem PC:∀{st st'},On st k->On st' k->st.N=st'.N->(∀x∈l,RbOk k x)->(runE st l).N=(runE st' l).N:=by
 induction l with
 | nil=>intro st st' _ _ e _;exact e
 | cons x l f=>
  intro st st' h a e b;have c:=b x (by simp);refine f (h.do c) (a.do c) ?_ fun y d=>b y (by simp[d]);unfold doE;split
  .rw[Zg h,Zg a];exact e
  .rw[ZQ h,ZQ a];show putS _ _ _=putS _ _ _;rw[e]
theorem YC {r:List Rb} (h:∀x∈emit P++r,RbOk k x):∀x∈P,WrOk k x:=by
 intro x a;have:=h (x.1,x.2,false) (List.mem_append_left _ (zU.2 ⟨x,a,rfl⟩));rcases this with h|h
 .cases h
 .exact h
theorem PA (w:k<=256) (l) (h) (t:h<256) (st) (u:On st k) (v:∀x∈l,RbOk k x):(runE st (rh [] h l)).N=(runE st l).N/\∀x∈rh [] h l,RbOk k x:=by
 have i:∀(j) (l) (h) (st),h<256->l.length<=j->On st k->(∀x∈l,RbOk k x)->(runE st (rh [] h l)).N=(runE st l).N/\∀x∈rh [] h l,RbOk k x:=by
  intro j
  induction j with
  | zero=>
   intro l h st t d u v;have:l=[]:=(by cases l with|nil=>rfl|cons a l=>simp at d);subst this;have e:rh [] h []=emit (tt [] h):=rfl;rw[e,(ZS u (lD t (fun x b=>by simp at b))).1,UO w t u.n (fun x b=>by simp at b)];exact⟨rfl,ZM (lD t (fun x b=>by simp at b))⟩
  | succ j q=>
   intro l h st t d u v;rcases gZ l with⟨P,rfl⟩|⟨P,m,D,r,rfl,s⟩
   .have c:=YC (r:=[]) (by simpa using v);rw[jU,yU,(ZS u (lD t c)).1,(ZS u c).1,UO w t u.n c];exact⟨rfl,ZM (lD t c)⟩
   .have c:=YC v;have f:∀x∈r,RbOk k x:=fun x b=>v x (by simp[b]);have g:=u.run (ZM (lD t c));have p:=u.run (ZM c);have o:=q r (pR P h) (pU (runE st (emit (tt P h)))) (ZW P h t) (by omega) g.flush f;rw[VP,yU];refine⟨?_,fun x b=>?_⟩
    .rw[ZT,ZT];show (runE (pU (runE st (emit (tt P h)))) _).N=(runE (pU (runE st (emit P))) _).N;rw[o.1];refine PC g.flush p.flush ?_ f;rw[Zg g,Zg p];show (runE st (emit (tt P h))).N=(runE st (emit P)).N;rw[(ZS u (lD t c)).1,(ZS u c).1,UO w t u.n c]
    .rcases yo.1 b with b|b
     .exact ZM (lD t c) x b
     .rcases yD.1 b with rfl|b
      .exact zr rfl
      .exact o.2 x b
 exact i l.length l h st t zL u v
open Go.RowKit
structure Rq where
 n:Nat
 v:Value
 D:List Int
 b:Bool
def rab (x:Rq):Rb:=(x.n,x.D,x.b)
def rq3 (x:Rq):List Value:=[.int .i64 x.n,x.v,.bool x.b]
def tb (E:List Rq):List Value:=E.flatMap rq3
theorem VO (l):(tb l).length=l.length*3:=by
 induction l with
 | nil=>rfl
 | cons x l a=>simp only[tb,rq3,xo,zm,yx,xS]at *;omega
theorem U3 (a b):tb (a++b)=tb a++tb b:=by simp[tb]
theorem Ix (x) (b):tb (x::b)=rq3 x++tb b:=by simp[tb]
theorem I5 (l) (k):(tb l).take (k*3)=tb (l.take k)/\(tb l).drop (k*3)=tb (l.drop k):=by
 by_cases b:k<=l.length
 .have e:tb l=tb (l.take k)++tb (l.drop k):=by rw[<-U3,xC]
  have a:(tb (l.take k)).length=k*3:=by rw[VO,zj];omega
  constructor
  .rw[e,<-a,qM]
  .rw[e,<-a,List.drop_left]
 .have:=VO l;rw[zv (l:=l) (by omega),yP (l:=l) (by omega),zv (by omega),yP (by omega)];exact⟨rfl,rfl⟩
theorem Zu (l) (k) (hk):(tb l)[k*3]?=some (.int .i64 (l[k].n))/\(tb l)[k*3+1]?=some l[k].v/\(tb l)[k*3+2]?=some (.bool l[k].b):=by
 have e:tb l=tb (l.take k)++(.int .i64 (l[k].n)::l[k].v::.bool l[k].b::tb (l.drop (k+1))):=by
  conv=>lhs;rw[<-xC k l,xp hk,U3,Ix]
  rfl
 have a:(tb (l.take k)).length=k*3:=by rw[VO,zj];omega
 rw[e];refine⟨?_,?_,?_⟩
 .rw[zy (by omega),a,show k*3-k*3=0 by omega];rfl
 .rw[zy (by omega),a,show k*3+1-k*3=1 by omega];rfl
 .rw[zy (by omega),a,show k*3+2-k*3=2 by omega];rfl
def RqOk (w:World) (x:Rq):Prop:=(x.b=true/\x.n=0/\x.v=.slice none 0 0/\x.D=[])\/(x.b=false/\x.n<256/\vQ w x.v x.D/\x.D.length=64)
theorem RqOk.below {x:Rq} (h:RqOk w x) (e:Below w w w'):RqOk w' x:=by
 rcases h with h|⟨c,a,d,b⟩
 .exact zr h
 .exact zu ⟨c,a,wh.below d e,b⟩
def lu (w:World) (base:Nat) (x:Rq):Prop:=(x.b=true/\x.n=0/\x.v=.slice none 0 0/\x.D=[]) \/
 (x.b=false/\x.n<256/\x.D.length=64/\∃g cap cur,x.v=.slice (some ⟨g,0,none⟩) 64 cap/\(base<=g/\64<=cap)/\w.heap[g]?=some (.cells cur 5)/\cur.toList.take 64=u8s x.D)
def pz (w:World) (base:Nat) (v:Value) (L:List Rb):Prop:=∃E,E.map rab=L/\w.ownsRow base 204 3 v E.length (tb E)/\∀x∈E,lu w base x
theorem lu.one {x:Rq} (h:lu w base x):x.v.oneCell'=true:=by
 rcases h with⟨_,_,h,_⟩|⟨_,_,_,g,c,a,b,_⟩
 .rw[h];rfl
 .rw[b];rfl
theorem lu.mono {x:Rq} (h:lu w base x) (l:base'<=base):lu w base' x:=by
 rcases h with h|⟨i,e,k,g,b,a,f,c,d,j⟩
 .exact zr h
 .exact zu ⟨i,e,k,g,b,a,f,⟨zt l c.1,c.2⟩,d,j⟩
theorem lu.keep {x:Rq} (h:lu w base x) (n:∀i c,base<=i->w.heap[i]?=some (.cells c 5)->w'.heap[i]?=w.heap[i]?):lu w' base x:=by
 rcases h with h|⟨k,f,m,g,b,a,j,e,d,l⟩
 .exact zr h
 .exact zu ⟨k,f,m,g,b,a,j,e,(n g a e.1 d).trans d,l⟩
theorem pz.keeps {F:Nat->Prop} (h:pz w base v L) (m:yQ F w w') (n:∀i,base<=i->i<w.heap.size->¬F i):pz w' base v L:=by obtain⟨E,g,e,j⟩:=h;have a:=e.lt;exact⟨E,g,oW e fun b d=>m.block b (a b d).2 (n b (a b d).1 (a b d).2),fun x l=>(j x l).keep fun i c k f=>m.block i (xR f) (n i k (xR f))⟩
theorem pz.below (h:pz w base v L) (a:Below w w w'):pz w' base v L:=
 h.keeps (F:=fun _=>False) (yQ.of_below a) fun _ _ _ h=>h
theorem pz.mono (h:pz w base v L) (l:base'<=base):pz w base' v L:=by
 obtain⟨E,d,⟨f,b⟩,i⟩:=h;refine⟨E,d,⟨f,?_⟩,fun x k=>(i x k).mono l⟩;rcases b with b|⟨g,c,a,e,j,r⟩
 .exact zr b
 .exact zu ⟨g,c,a,e,zt l j,r⟩
theorem iU {E:List Rq} (h:E.map rab=L):E.length=L.length:=by rw[<-h,yp]
theorem Rn {E:List Rq} (h:∀x∈E,lu w base x):∀u∈tb E,u.oneCell'=true:=by
 intro u a;unfold tb at a;obtain⟨x,b,a⟩:=vA.1 a;have:=(h x b).one;simp[rq3]at a;rcases a with rfl|rfl|rfl
 .rfl
 .exact this
 .rfl
theorem gW {E:List Rq} (h:wh w v 3 E.length (tb E)):∃p cp,v=.slice p E.length cp/\Hid (0<E.length->∃g o,p=some ⟨g,o,none⟩/\g<w.heap.size/\∀(j) (x),(tb E)[j]?=some x->w.cell? ⟨g,o+j,none⟩=some x):=by
 obtain⟨_,⟨b,d,e,rfl⟩|⟨g,o,a,rfl,c⟩⟩:=h
 .exact⟨d,e,by rw[b],fun h=>by omega⟩
 .refine⟨_,a,rfl,fun b=>⟨g,o,rfl,?_,c⟩⟩;exact zG (c _ _ (Zu E 0 b).1)
theorem RqOk.shape {x:Rq} (h:RqOk w x):∃p l c,x.v=.slice p l c/\(x.b=false->l=64)/\x.n<256:=by
 rcases h with⟨_,e,d,_⟩|⟨j,e,d,f⟩
 .exact⟨none,0,0,d,fun h=>by simp_all,by omega⟩
 .obtain⟨_,⟨k,_⟩|⟨g,o,a,i,_⟩⟩:=d
  .omega
  .exact⟨_,_,a,i,fun _=>f,e⟩
theorem Rp (v) (E) (w) (X:wh w v 3 E.length (tb E)) (Y:∀x∈E,RqOk w x) (Z:E.length<=100):
 Calls prog 213 #[v] w fun e w'=>e=.returned ()/\Below w w w':=by
 obtain⟨p,W,rfl,G⟩:=gW X;obtain⟨N,u⟩:=zD E.length;have O:=za Y;rw[u.o]at Z G;rw[u.o];clear X Y;have M:¬100<(N:Int):=by omega
 go_enter func213,ntmps213
 go_wp2;go_loopw [10] (fun i wr=>∃k:Nat,k<=N/\i=.int .i64 k/\Below w w wr) (fun i _=>N-(intOf i).toNat);case atStart=>exact⟨0,ye _,rfl,zB⟩
 case round=>
  obtain⟨k,T,rfl,c⟩:=hrel;by_cases q:k<N
  .obtain⟨g,o,rfl,l,m⟩:=G.o (by omega);have f:k<E.length:=(by rw[u.o];exact q);obtain⟨A,y,B⟩:=Zu E k f;obtain⟨H,I,J,h,a,t⟩:=(O.o E[k] (zx f)).shape;rw[h]at y;have Q:=(c.cell (p:=⟨g,o+k*3,none⟩) l).trans (m _ _ A);have K:=(c.cell (p:=⟨g,o+(k*3+1),none⟩) l).trans (m _ _ y);have C:=(c.cell (p:=⟨g,o+(k*3+2),none⟩) l).trans (m _ _ B);rw[<-yC]at K C;obtain⟨d,s⟩:=zD (E[k].n);obtain⟨D,r⟩:=zD (E[k].b);rw[s.o]at Q t;rw[r.o]at C a;have F:k<(N:Int):=(by omega);have P:=zo l c.size;have L:¬g=wr.heap.size:=(by omega);have j:Hid (Below w w (wr.alloc (.cells #[d,(H,I,J),.bool D] 204))):=c.alloc c.size _;clear m A y B h;cases D with
   | true=>
    clear a;go_wp2;go_roundw;case rel=>exact⟨k+1,by omega,by go_num,j.o⟩
    case measure=>simp[intOf];omega
   | false=>
    have z:=a rfl;subst z;have R:decide ((d:Int)<0)=false:=(by rw[zM];omega);have U:decide (256<=(d:Int))=false:=(by rw[zM];omega);have S:¬256<=(d:Int):=(by omega);have V:¬256<=d:=(by omega);clear a;go_wp2;go_roundw;case rel=>exact⟨k+1,by omega,by go_num,j.o⟩
    case measure=>simp[intOf];omega
  .go_wp2;go_ret;exact⟨rfl,c⟩
theorem Q7 (x:Rq) (w) (h:∃p l c,x.v=.slice p l c):Calls prog 215 #[.agg #[x.n,x.v,.bool x.b]] w fun e w'=>e=.returned (.bool x.b)/\Below w w w':=by obtain⟨p,l,c,h⟩:=h;rw[h];obtain⟨g,a⟩:=zD x.n;obtain⟨f,d⟩:=zD x.b;rw[a.o,d.o];go_enter func215,ntmps215;go_wp2;go_ret;exact⟨rfl,zB.alloc zL _⟩
def barI (E:List Rq):Int:=match E.findIdx? fun x=>x.b with|some k=>k|none=> -1
theorem Q6 (v) (E) (w) (Y:wh w v 3 E.length (tb E)) (Z:∀x∈E,RqOk w x) (hl:E.length<=1000):
 Calls prog 214 #[v,.func (.func 215) #[] #[]] w fun e w'=>e=.returned (.int .i64 (barI E))/\Below w w w':=by
 obtain⟨p,X,rfl,I⟩:=gW Y;obtain⟨N,q⟩:=zD E.length;have S:=za Z;rw[q.o]at hl I;rw[q.o];clear Y Z;go_enter func214,ntmps214;go_wp2;go_loopw [8] (fun i wr=>∃k:Nat,k<=N/\i=.int .i64 k/\Hid (∀j (c:j<E.length),j<k->E[j].b=false)/\Below w w wr) (fun i _=>N-(intOf i).toNat);case atStart=>exact⟨0,ye _,rfl,fun j _ c=>by omega,zB⟩
 case round=>
  obtain⟨k,V,rfl,B,m⟩:=hrel;by_cases t:k<N
  .obtain⟨g,o,rfl,u,r⟩:=I.o (by omega);have d:k<E.length:=(by rw[q.o];exact t);obtain⟨D,C,F⟩:=Zu E k d;obtain⟨K,M,O,h,_,_⟩:=(S.o E[k] (zx d)).shape;have s:=za (fun W=>Q7 E[k] W ⟨K,M,O,h⟩);rw[h]at C s;have T:=(m.cell (p:=⟨g,o+k*3,none⟩) u).trans (r _ _ D);have P:=(m.cell (p:=⟨g,o+(k*3+1),none⟩) u).trans (r _ _ C);have G:=(m.cell (p:=⟨g,o+(k*3+2),none⟩) u).trans (r _ _ F);rw[<-yC]at P G;obtain⟨U,z⟩:=zD (E[k].n);obtain⟨Q,l⟩:=zD (E[k].b);rw[z.o]at T s;rw[l.o]at G s;have H:k<(N:Int):=(by omega);clear r D C F h;go_wp2_with fail
   refine (s.o _).mono ?_;cases Q with
   | true=>
    have y:Hid (barI E=k):=(by show _=_;unfold barI;have:E.findIdx? (fun x=>x.b)=some k:=(by rw[xP];exact⟨d,l.o,fun j c=>by simpa using B.o j (by omega) c⟩);rw[this]);rintro e J ⟨rfl,a⟩;have f:=zf m a;clear a;go_wp2;go_ret;rw[y.o];exact⟨rfl,f⟩
   | false=>
    have A:Hid (∀j (c),j<k+1->E[j].b=false):=fun j c L=>by
     by_cases e:j=k
     .subst e;exact l.o
     .exact B.o j c (by omega)
    rintro e J ⟨rfl,a⟩;have f:=zf m a;clear a;go_wp2;go_roundw;case rel=>exact⟨k+1,by omega,by go_num,A,f⟩
    case measure=>simp[intOf];omega
  .have y:Hid (barI E = -1):=(by show _=_;unfold barI;have:E.findIdx? (fun x=>x.b)=none:=(by rw[vV];intro x R;obtain⟨j,c,rfl⟩:=va R;exact B.o j c (by rw[q.o]at c;omega));rw[this]);go_wp2;go_ret;rw[y.o];exact⟨rfl,m⟩
structure Jw where
 n:Nat
 v:Value
 D:List Int
def jab (x:Jw):Wr:=(x.n,x.D)
def jec (x:Jw):Nat×Value:=(x.n,x.v)
def nl (E:List Jw):List Value:=mp (E.map jec)
theorem Gb (a b):nl (a++b)=nl a++nl b:=by unfold nl;rw[yy,Ge]
theorem Yd (E) (k) (hk):(nl E)[k*2]?=some (.int .i64 (E[k].n))/\(nl E)[k*2+1]?=some E[k].v:=by have:=Ib (E.map jec) k (by simpa using hk);simpa[nl,jec]using this
def JwOk (w:World) (x:Jw):Prop:=x.n<256/\vQ w x.v x.D/\x.D.length=64
def ni (w:World) (base:Nat) (x:Jw):Prop:=x.n<256/\x.D.length=64/\∃g cap cur,x.v=.slice (some ⟨g,0,none⟩) 64 cap/\(base<=g/\64<=cap)/\w.heap[g]?=some (.cells cur 5)/\cur.toList.take 64=u8s x.D
theorem ni.ok {x:Jw} (h:ni w base x):JwOk w x:=by obtain⟨d,a,g,e,b,i,_,f,c⟩:=h;refine⟨d,?_,a⟩;rw[i];exact pD a f c
theorem ni.keep {x:Jw} (h:ni w base x) (m:∀i c,base<=i->w.heap[i]?=some (.cells c 5)->w'.heap[i]?=w.heap[i]?):ni w' base x:=by obtain⟨k,j,g,b,a,l,d,e,f⟩:=h;exact⟨k,j,g,b,a,l,d,(m g a d.1 e).trans e,f⟩
theorem JwOk.shape {x:Jw} (h:JwOk w x):∃p c,x.v=.slice p 64 c:=by
 obtain⟨_,⟨_,⟨e,_⟩|⟨g,o,a,b,_⟩⟩,d⟩:=h
 .omega
 .exact⟨_,a,by rw[b,d]⟩
def iB (w:World) (v:Value) (E:List Jw):Prop:=wh w v 2 E.length (nl E)/\∀x∈E,JwOk w x
theorem VA {E:List Jw} (h:wh w v 2 E.length (nl E)):∃p cp,v=.slice p E.length cp/\Hid (0<E.length->∃g o,p=some ⟨g,o,none⟩/\g<w.heap.size/\∀(j) (x),(nl E)[j]?=some x->w.cell? ⟨g,o+j,none⟩=some x):=by
 obtain⟨_,⟨b,d,e,rfl⟩|⟨g,o,a,rfl,c⟩⟩:=h
 .exact⟨d,e,by rw[b],fun h=>by omega⟩
 .exact⟨_,a,rfl,fun b=>⟨g,o,rfl,zG (c _ _ (Yd E 0 b).1),c⟩⟩
def pX (w:World) (b B:Nat) (v:Value) (E:List Jw):Prop:=w.ownsRow b 202 2 v E.length (nl E)/\∀x∈E,ni w B x
theorem pX.at {E:List Jw} (h:pX w b B v E):iB w v E:=⟨wh.of_owns h.1,fun x a=>(h.2 x a).ok⟩
theorem pX.below {E:List Jw} (h:pX w b B v E) (e:Below w w w'):pX w' b B v E:=
 ⟨oW h.1 fun q a=>e.block q (h.1.lt q a).2,fun x d=>(h.2 x d).keep fun i _ _ c=>e.block i (xR c)⟩
theorem YK (n) (K:0<=n/\n<4294967296) (v) (b) (w) (h:vQ w v b) (L:b.length<=1000000):
 Calls prog 180 #[.int .u32 n,v] w fun e w'=>e=.returned (.int .u32 (sumB n b))/\w=w':=by
 obtain⟨N,l⟩:=zD b.length;obtain⟨p,J,G,H⟩:∃p c,v=.slice p N c/\Hid (0<N->∃g o,p=some ⟨g,o,none⟩/\∀(j:Nat) (x:Value),(u8s b)[j]?=some x->w.cell? ⟨g,o+j,none⟩=some x):=by
  rw[<-l.o];obtain⟨_,⟨B,F,t,rfl⟩|⟨g,o,s,rfl,m⟩⟩:=h
  .exact⟨F,t,by rw[B],fun h=>by omega⟩
  .exact⟨_,s,rfl,fun _=>⟨g,o,rfl,m⟩⟩
 subst G;rw[l.o]at L;clear h;go_enter func180,ntmps180;go_wp2
 go_loop [0,9] (fun a i=>∃(k:Nat) (q:Int),k<=N/\i=.int .i64 k/\a=.int .u32 q/\0<=q/\q<4294967296/\Hid (sumB n (b.take k)=q)) (fun _ i=>N-(intOf i).toNat)
 case atStart=>exact⟨0,n,ye _,rfl,rfl,K.1,K.2,rfl⟩
 case round=>
  obtain⟨k,q,I,rfl,rfl,D,A,u⟩:=hrel;by_cases r:k<N
  .obtain⟨g,o,rfl,m⟩:=H.o (by omega);have d:k<b.length:=(by rw[l.o];exact r);obtain⟨c,y⟩:=zD (b[k]);have t:=m k _ (qg b k d);rw[y.o]at t;have z:=JI q c;have E:Hid (sumB n (b.take (k+1))=Za q c):=(by show _=_;rw[<-zR d,Po,u.o,y.o]);have f:=za z;clear m z;go_wp2
   go_round
   case rel=>exact⟨k+1,Za q c,by omega,by go_num,rfl,f.o.1,f.o.2,E⟩
   case measure=>simp[intOf];omega
  .have C:Hid (sumB n b=q):=(by have:=u.o;rw[zv (by rw[l.o];omega)]at this;exact this);go_wp2;go_ret;rw[C.o];exact⟨rfl,rfl⟩
theorem SL (n) (a:0<=n) (b:n<4294967296) (w):Calls prog 139 #[.int .u32 n] w fun e w'=>e=.returned (.slice (some ⟨w.heap.size,0,none⟩) 4 4)/\w'=w.alloc (.cells (u8s (uY n)).toArray 5):=by
 go_enter func139,ntmps139
 go_wp2;go_ret;exact⟨rfl,by simp[u8s,uY]⟩
theorem gY (a b c d) (g o m cp) (k:4<=m) (w) (l:w.cell? ⟨g,o,none⟩=some (.int .u8 a)) (n:w.cell? ⟨g,o+1,none⟩=some (.int .u8 b)) (p:w.cell? ⟨g,o+2,none⟩=some (.int .u8 c)) (q:w.cell? ⟨g,o+3,none⟩=some (.int .u8 d)):
 Calls prog 184 #[.slice (some ⟨g,o,none⟩) m cp] w fun e w'=>e=.returned (.int .u32 (rdB a b c d))/\Below w w w':=by
 have j:0<m:=by omega
 have f:1<m:=by omega
 have h:2<m:=by omega
 have i:3<m:=by omega
 go_enter func184,ntmps184
 go_wp2
 go_quiet (fail)
 go_wp2;go_ret;exact⟨rfl,⟨rfl,rfl,rfl,zL,fun _ _=>rfl⟩⟩
theorem Xr (v) (E) (w) (h:iB w v E) (hl:E.length<=1000):
 Calls prog 140 #[v] w fun e w'=>e=.returned (.int .u32 (sumW (E.map jab)))/\Below w w w':=by
 have HE:=za h.2;obtain⟨p,cp,rfl,V⟩:=VA h.1;obtain⟨N,J⟩:=zD E.length;rw[J.o]at V hl;rw[J.o];clear h;go_enter func140,ntmps140;go_wp2;go_loopw [3,8] (fun a i wr=>∃(k:Nat) (q:Int),k<=N/\i=.int .i64 k/\a=.int .u32 q/\0<=q/\q<4294967296/\Hid (sumW ((E.take k).map jab)=q)/\Below w w wr) (fun _ i _=>N-(intOf i).toNat);case atStart=>exact⟨0,2166136261,ye _,rfl,rfl,by omega,by omega,rfl,zB⟩
 case round=>
  obtain⟨k,q,hk,rfl,rfl,C,s,S,B⟩:=hrel;by_cases L:k<N
  .obtain⟨g,o,rfl,M,R⟩:=V.o (by omega);have j:k<E.length:=(by rw[J.o];exact L);obtain⟨I,K⟩:=Yd E k j;have b:=HE.o E[k] (zx j);have d:sumW ((E.take (k+1)).map jab)=sumB (sumB q [(E[k].n)]) E[k].D:=(by rw[<-zR j,yy];show sumW (_++[jab E[k]])=_;rw[Wn,S.o];rfl);generalize E[k]=x at I K b d;obtain⟨c,xv,P⟩:=x;obtain⟨m,r,y⟩:=b.shape;dsimp only at y I K d;subst y;have c0:=(B.cell (p:=⟨g,o+k*2,none⟩) M).trans (R _ _ I);have X:=(B.cell (p:=⟨g,o+(k*2+1),none⟩) M).trans (R _ _ K);rw[<-yC]at X;have Y:c<256:=b.1;have U:k<(N:Int):=(by omega);have ab:=zo M B.size;have Z:¬g=wr.heap.size:=(by omega);have f:=jg ⟨C,s⟩ [(c:Int)];obtain⟨T,z⟩:=zD (sumB q [(c:Int)]);rw[z.o]at d f;have G:=jg f P;have O:=za d;have A:=za G;have t:Below wr wr (wr.alloc (.cells #[c,.slice m 64 r] 202)):=zB.alloc zL _;have H:Below wr wr ((wr.alloc (.cells #[c,.slice m 64 r] 202)).alloc (.cells (u8s [c]).toArray 5)):=t.alloc (by simp) _;have F:=za (zf B H);have l:=zT (wr.alloc (.cells #[c,.slice m 64 r] 202)) (.cells (u8s [(c:Int)]).toArray 5);rw[show (wr.alloc (.cells #[c,.slice m 64 r] 202)).heap.size=wr.heap.size+1 by simp]at l;have u:=za (YK q ⟨C,s⟩ (.slice (some ⟨wr.heap.size+1,0,none⟩) 1 1) [(c:Int)] _ (pD (n:=1) rfl l (by simp[u8s])) (by simp));rw[z.o]at u;have Q:=za (YK T f (.slice m 64 r) P ((wr.alloc (.cells #[c,.slice m 64 r] 202)).alloc (.cells (u8s [(c:Int)]).toArray 5)) (wh.below b.2.1 F.o) (by rw[b.2.2];omega));clear R I K b d f G t H l;go_wp2_with fail
   refine u.o.mono ?_;rintro e w' ⟨rfl,rfl⟩;go_wp2_with fail
   refine Q.o.mono ?_;rintro e w' ⟨rfl,rfl⟩;go_wp2;go_roundw;case rel=>exact⟨k+1,sumB T P,by omega,by go_num,rfl,A.o.1,A.o.2,O,F.o⟩
   case measure=>simp[intOf];omega
  .have W:Hid (sumW (E.map jab)=q):=(by have:=S.o;rw[zv (by rw[J.o];omega)]at this;exact this);go_wp2;go_ret;rw[W.o];exact⟨rfl,B⟩
