import Derived.Test.YtakfhadmokoikaaGreatDoorKA11
import Derived.Lib.AppendZerosOnto
import Derived.Lib.AppendZeros
import Derived.Deep.DeepAppendWide
set_option maxHeartbeats 0
set_option linter.all false
set_option maxRecDepth 100000
namespace Go.Proofs.YtakfhadmokoikaaGreatDoor
open Go.Proofs.Tryz Go.RowKit
theorem LB (w:World) (g i n:Nat) (cur:Array Value) (l:List (Int×Int)) (s:w.heap[g]?=some (.cells cur 176)) (x:cur.size=n*2) (t:cur.toList.take (n*2)=wT l) (y:n=l.length) (u:i<n) (z:n<=1000000):
 ∃(G:Nat) (zs:List Value),n+1<=G/\G<=maxLen/\zs.length=(G-i)*2/\∀ty,(Builtin.append_ #[96,3] ty #[(g,0,i,n),.int .i64 ((n:Int)+1-(i:Int))]).run prog w =
  .ok (w.heap.size,0,(n+1),G) (w.drew.alloc (.cells (wT (l.take i)++zs).toArray 176)):=by
 obtain⟨k,r,p,e,a⟩:=xp kU;have d:(wT (l.take i)).length=i*k.size:=by rw[rC,zi,e];congr 1;omega
 have c:(Builtin.firstCells k.size i (g,0,i,n)).run prog w.drew=.ok (wT (l.take i)).toArray w.drew:=
  pm _ _ _ _ _ _ _ d fun j v o=>by have b:(⟨g,0,none⟩:Addr).add j=⟨g,0+j,none⟩:=(by unfold Addr.add;split<;>simp_all);have m:=(zy.1 o).1;rw[d,e]at m;rw[b,yL,xR w.drew g j cur 176 (0,0) s];rw[(VR l i (by omega)).2,<-t,zI,ze (by omega),zI,ze (by omega)]at o;simpa using o
 have q:((n:Int)+1-(i:Int))=((n+1-i:Nat):Int):=by omega
 have f:prog.underlying 3=some (.int .i64):=by kernel_rfl
 refine⟨grownCap w (n+1) n 176,(Builtin.zeroCells #[(),()] (n+1-i)++Builtin.zeroCells #[(),()] (grownCap w (n+1) n 176-(n+1))).toList,sD _ _ _ _,grownCap_le_maxLen _ _ _ _ (by unfold maxLen;omega),?_,fun ty=>?_⟩
 .have:=sD w (n+1) n 176;rw[yp,Array.size_append,qF,qF];show (n+1-i)*2+(_-(n+1))*2=_;omega
 .have h:=Lib.run_append_grow_zeros (P:=prog) w 96 3 ty 176 k _ .i64 .i64 rowT f r p (some ⟨g,0,none⟩) i n (wT (l.take i)) c (n+1-i) (by omega) (by omega) (by omega) (by omega) (by rw[a];omega) (by rw[a];exact growslice_fits_wide (by omega) (by omega));rw[show i+(n+1-i)=n+1 by omega]at h;rw[q,h]
  congr 3
  simp[Array.append_assoc,Value.cells]
theorem MC (B g i n:Nat) (cur:Array Value) (l:List (Int×Int)) (x y:Int) (h:Nat) (w:World) (au:B<=w.heap.size) (HN:Hid (n=l.length)) (hl:n<=1000000) (aw:i<n) (ay:g<w.heap.size) (a0:h<w.heap.size)
 (HG:Hid (w.heap[g]?=some (.cells cur 176))) (HS:Hid (cur.size=n*2)) (HT:Hid (cur.toList.take (n*2)=wT l)) (HH:Hid (w.heap[h]?=some (.cells #[x,y] 176))):
 Calls prog 155 #[(g,0,n,n),i,.slice (some ⟨h,0,none⟩) 1 1] w (nn B (l.take i++[(x,y)]++l.drop i) w):=by
 obtain⟨G,V,az,L,D,c⟩:=LB w g i n cur l HG.o HS.o HT.o HN.o aw hl;have K:=L;unfold maxLen at L;have ag:(i:Int)<(n:Int):=by omega
 have am:((i:Int)==(n:Int))=false:=by rw[xf];omega
 have ar:(i==n)=false:=by rw[xf];omega
 have ax:decide (i=n)=false:=zK (by omega);have an:i≠G:=by omega
 have af:i+1≠G:=by omega
 have p1:=zW ((i:Int)+1);have p3:((i:Int)+1).toNat=i+1:=by omega
 have p4:(0:Int)<=(i:Int)+1:=by omega
 have p6:(i:Int)+1<=(n:Int)+1:=by omega
 have aq:(i:Int)+1<=(G:Int):=by omega
 have p7:¬G=i+1:=by omega
 have p8:¬G=i:=by omega
 have p9:(i:Int)<=(n:Int)+1:=by omega
 have p5:(n:Int)<(n:Int)+1:=by omega
 have av:¬n=i:=by omega
 have ak:i≠n:=by omega
 have ai:(i:Int)<=(n:Int):=by omega
 have ah:(i:Int)+1<=(n:Int):=by omega
 obtain⟨p,A⟩:=zA ((wT (l.take i)++V).toArray);rw[<-A.o]at c;have Q:p.size=G*2:=by rw[A.o];simp[rC,D];have:=HN.o;omega
 have t:=Lib.hid Q;have aj:=Lib.hid D;obtain⟨k,J⟩:=zA w.heap.size;rw[<-J.o]at c;have N:Hid ((w.drew.alloc (.cells p 176)).heap[k]?=some (.cells p 176)):=by show _=_;rw[J.o];exact zT w.drew _
 have aa:Hid ((w.drew.alloc (.cells p 176)).heap[g]?=some (.cells cur 176)):=by show _=_;rw[ui w.drew _ ay];exact HG.o
 have X:Hid ((w.drew.alloc (.cells p 176)).heap[h]?=some (.cells #[x,y] 176)):=by show _=_;rw[ui w.drew _ a0];exact HH.o
 have T:Below B w (w.drew.alloc (.cells p 176)):=(xW B w).drew.alloc au _;have H:w.heap.size+1=(w.drew.alloc (.cells p 176)).heap.size:=by simp
 generalize w.drew.alloc (.cells p 176)=q at *
 have W:=Lib.hid c;clear c Q D;have C:B<=k:=by rw[J.o];omega
 have ac:=Lib.hid H;clear H;have ao:k≠h:=by rw[J.o];omega
 have U:k≠g:=by rw[J.o];omega
 have f:∀(j:Nat) (v:Value),(wT [(x,y)])[j]?=some v->q.cell? ((⟨h,0,none⟩:Addr).add j)=some v:=fun j v M=>by
  have m:(⟨h,0,none⟩:Addr).add j=⟨h,0+j,none⟩:=by unfold Addr.add;split<;>simp_all
  rw[m,yL,zC X.o,<-M,<-zP];rfl
 have s:=fun ty=>V9 (P:=prog) q 96 96 ty 176 2 k (i*2) (n+1-i) (G-i) ⟨h,0,none⟩ 1 1 p 176 (wT [(x,y)]) rowT rowS N.o (by show 2=min 1 (n+1-i)*2;omega) f (by show i*2+2<=_;rw[t.o];omega) (fA _);obtain⟨e,F⟩:=zA ((p.toList.take (i*2)++wT [(x,y)]++p.toList.drop (i*2+(wT [(x,y)]).length)).toArray);rw[<-F.o]at s;have O:Hid ((q.setRow k e).heap[k]?=some (.cells e 176)):=yi q _ _ _ _ _ N.o;have R:Hid ((q.setRow k e).heap[g]?=some (.cells cur 176)):=jF (w:=q) aa.o _ _ U.symm;have ab:Below B w (q.setRow k e):=Vb T C _;have ad:w.heap.size<=(q.setRow k e).heap.size:=by have:=ac.o;simp[World.setRow];omega
 generalize q.setRow k e=Z at *
 clear f;go_enter nQ,pS;go_wp2_with (at_builtin;refine Lib.wpList_append_run _ rfl _ _ _ _ rfl _ _ rfl rfl _ _ (W.o _) ?_)
 clear s
 go_still_tail 8,(by kernel_rfl)
 go_wp2_with fail
 obtain⟨a,b⟩:=zA (wT (l.drop i));have r:a.length=(n-i)*2:=by rw[b.o,rC,yx,HN.o]
 have u:∀(j:Nat) (v:Value),a[j]?=some v->Z.drew.cell? ((⟨g,i*2,none⟩:Addr).add j)=some v:=fun j v M=>by
  have m:(⟨g,i*2,none⟩:Addr).add j=⟨g,i*2+j,none⟩:=by unfold Addr.add;split<;>simp_all
  have al:=(zy.1 M).1;rw[m,xR Z.drew g (i*2+j) cur 176 (0,0) R.o];rw[b.o,(VR l i (by rw[<-HN.o];omega)).1,yo,<-HT.o,zI,ze (by omega)]at M;simpa using M
 have E:e.size=G*2:=by rw[F.o];simp[rC,t.o];omega
 rw[V9 (P:=prog) Z.drew 96 96 _ 176 2 k ((i+1)*2) (n-i) (G-(i+1)) ⟨g,i*2,none⟩ (n-i) (n-i) e 176 a rowT rowS O.o (by rw[r];congr 1;show n-i=min (n-i) (n-i);omega) u (by rw[r,E];omega) (by rw[b.o];exact fA _)];obtain⟨D2,z⟩:=zA ((e.toList.take ((i+1)*2)++a++e.toList.drop ((i+1)*2+a.length)).toArray);rw[<-z.o];have S:=Lib.hid r;have ae:=Lib.hid E;clear u r E;go_wp2;go_ret;refine⟨_,rfl,?_,Vb ab.drew C _,by simpa[World.setRow]using ad⟩;have d:(l.take i++[(x,y)]++l.drop i).length=n+1:=by simp only[zl,zi,yx,yz,xP];have:=HN.o;omega
 rw[d];have I:(wT (l.take i)).length=i*2:=by rw[rC,zi];have:=HN.o;omega
 have Y:e.toList.take ((i+1)*2)=wT (l.take i++[(x,y)]):=by
  rw[F.o,A.o,oW];show ((wT (l.take i)++V).take (i*2)++wT [(x,y)]++_).take ((i+1)*2)=_;have e1:(wT (l.take i)++V).take (i*2)=wT (l.take i):=by rw[<-I,qL]
  have e2:(wT (l.take i)++wT [(x,y)]).length=(i+1)*2:=by rw[zl,I,rC];show i*2+1*2=_;omega
  rw[e1,<-e2,qL]
 refine⟨by rw[rC,d],zu ⟨k,G,D2,rfl,C,yi _ _ _ _ _ _ O.o,by omega,K,?_,?_⟩⟩
 .rw[z.o];simp[ae.o,S.o];omega
 .rw[z.o];show (e.toList.take ((i+1)*2)++a++e.toList.drop ((i+1)*2+a.length)).take ((n+1)*2)=_;rw[Y,b.o,<-oW];rw[yR (by rw[rC,d];omega),zv (by rw[rC,d];omega)]
theorem Ny (B i:Nat) (v:Value) (l:List (Int×Int)) (x y:Int) (h:Nat) (w:World) (t:B<=w.heap.size) (z:l.length<=1000000) (C:i<=l.length) (s:w.ownsRow B 176 2 v l.length (wT l))
 (u:w.heap[h]?=some (.cells #[x,y] 176)) (A:∀g,v.ownBlock=some g->h≠g):
 Calls prog 155 #[v,i,.slice (some ⟨h,0,none⟩) 1 1] w (nn B (l.take i++[(x,y)]++l.drop i) w):=by
 by_cases o:i=l.length
 .subst o;rw[zv zL,yP zL,xn];exact Nx B v l x y h w t z s u
 .have d:i<l.length:=by omega
  obtain⟨m,⟨_,q⟩|⟨g,a,c,rfl,p,f,r,n,k,j⟩⟩:=s
  .omega
  .by_cases b:l.length+1<=a
   .exact MB B g a i l.length c l x y h w p rfl z d b n (A g rfl) f k j u
   .have e:a=l.length:=(by omega);subst e;exact MC B g i l.length c l x y h w t rfl z d (xL f) (xL u) f k j u
def posQ : List (Int×Int)->Int->Nat
 | [],_=>0
 | x::l,u=>if x.1<u then posQ l u+1 else 0
theorem Yb (l:List (Int×Int)) (u:Int):posQ l u<=l.length:=by
 induction l with
 | nil=>exact zL
 | cons x l a=>unfold posQ;split<;>simp<;>omega
theorem Q7 (l:List (Int×Int)) (u:Int) (k:Nat) (a:k<l.length):posQ (l.drop k) u=if l[k].1<u then posQ (l.drop (k+1)) u+1 else 0:=by rw[xe a];rfl
def setQ (l:List (Int×Int)) (u lim:Int):List (Int×Int):=
 if lim = -1 then othQ l u else (othQ l u).take (posQ (othQ l u) u)++[(u,lim)]++(othQ l u).drop (posQ (othQ l u) u)
def pi (l:List (Int×Int)) (u lim:Int):Bool:=decide (lim≠-1)&&decide ((othQ l u).length=20)
def ir (l:List (Int×Int)) (u lim:Int) (w:World) (e:Ending) (w':World):Prop:=
 (pi l u lim=true->e=.returned (.tuple #[.slice none 0 0,(6:Int)])) /\
 (pi l u lim=false->∃v,e=.returned (.tuple #[v,()])/\w'.ownsRow w 176 2 v (setQ l u lim).length (wT (setQ l u lim)))/\Below w w w'
theorem Y1 (l:List (Int×Int)) (u:Int):(othQ l u).length<=l.length:=vd _ _
theorem KL {w:World} {b b':Nat} {e:TypeId} {size:Nat} {v:Value} {n:Nat} {xs:List Value} (h:w.ownsRow b e size v n xs) (k:b'<=b):w.ownsRow b' e size v n xs:=by
 obtain⟨d,i|⟨g,c,a,f,j,r⟩⟩:=h
 .exact⟨d,zt i⟩
 .exact⟨d,zu ⟨g,c,a,f,zr k j,r⟩⟩
theorem Uy (v:Value) (l:List (Int×Int)) (u lim:Int) (w:World) (h:xT w v 2 l.length (wT l)) (hl:l.length<=20) (ab:okQ l=true) (ag:0<=u) (av:u<=255) (ax: -1<=lim) (ay:lim<=256):
 Calls prog 117 #[v,u,lim] w (ir l u lim w):=by
 have ao:sf l=0:=by unfold sf;rw[zb (by omega),ze ab]
 have HR:Hid (∀W:World,Below w w W->Calls prog 141 #[v] W fun e J=>e=.returned ()/\Below W W J):=fun W L=>by have:=Kx v l W (xT.below h L) (by omega);rw[ao]at this;exact this
 have HC:Hid (∀W:World,Below w w W->Calls prog 153 #[v] W (nn W l W)):=fun W L=>LD v l W (xT.below h L) (by omega);have R:Hid (∀(B:Nat) (t:Value) (W:World),B<=W.heap.size->w.heap.size<B->W.cell? (w.heap.size,0)=some (.int .i64 u)->W.ownsRow B 176 2 t l.length (wT l) ->
  Calls prog 152 #[t,fnV w.heap.size] W (nn B (othQ l u) W)):=fun B t W h1 h2 h3 h4=>Lt B t l u w W h1 h2 h3 (by omega) h4
 have HL:=Lib.hid hl;have am:=Lib.hid (Yb (othQ l u) u);clear ao h ab;have au:(othQ l u).length<=20:=zr (Y1 l u) hl;have h1:¬u<0:=by omega
 go_enter func117,ntmps117
 go_wp2_with fail
 refine (HR.o _ ((xW _ w).alloc zL _)).mono ?_;rintro e w1 ⟨rfl,M⟩;have aa:Below w w w1:=((xW _ w).alloc zL _).trans (M.mono (by simp));have D:w.heap.size<w1.heap.size:=by have:=M.size;simp at this;omega
 have T:w1.cell? (w.heap.size,0)=some (.int .i64 u):=by rw[M.cell (p:=⟨w.heap.size,0,none⟩) (by simp)];simp
 clear M;go_wp2_with fail
 refine (HC.o _ aa).mono ?_;rintro e w2 ⟨v2,rfl,y,X,aq⟩;have af:Below w w w2:=aa.trans (X.mono (by omega));have G:w2.cell? (w.heap.size,0)=some (.int .i64 u):=by rw[X.cell (p:=⟨w.heap.size,0,none⟩) D];exact T
 have F:=Lib.hid y;clear y X T HC HR;go_wp2_with fail
 refine (R.o w1 v2 w2 aq D G F.o).mono ?_;rintro e O ⟨v3,rfl,f,Y,aB⟩;have Z:Below w w O:=af.trans (Y.mono (by omega));have ak:O.cell? (w.heap.size,0)=some (.int .i64 u):=by rw[Y.cell (p:=⟨w.heap.size,0,none⟩) D];exact G
 have j:=Lib.hid f;obtain⟨q,c,a0,hq⟩:=tR f;clear Y G f R F af aa;subst a0;obtain⟨n,s⟩:=zA ((othQ l u).length);rw[<-s.o]at au ⊢;obtain⟨P,HP⟩:=zA (posQ (othQ l u) u);have ad:∀(t:Value) (J:World),(∀hf:pi l u lim=false,J.ownsRow w 176 2 t (setQ l u lim).length (wT (setQ l u lim)))->pi l u lim=false->Below w w J->ir l u lim w (.returned (.tuple #[t,()])) J:=fun t J a b c=>
  ⟨fun h=>by rw[b]at h;exact yb h (by simp),fun hf=>⟨t,rfl,a hf⟩,c⟩
 have ai:=Lib.hid ad;clear ad;by_cases r:lim = -1
 .subst r;have HF:Hid (pi l u (-1)=false):=by show _=_;unfold pi;simp
  have HS:Hid (setQ l u (-1)=othQ l u):=by show _=_;unfold setQ;rw[ze rfl]
  go_wp2;go_ret2;refine ai.out _ _ (fun _=>?_) HF.o Z;rw[HS.o,<-s.o];have U:=j.o;rw[<-s.o]at U;exact KL U (nU D)
 .have b1:(lim==-1)=false:=by rw[xf];exact r
  have N:=Lib.hid r;clear r;by_cases E:n=20
  .have HF:Hid (pi l u lim=true):=(by show _=_;unfold pi;rw[<-s.o];simp[E,N.o]);subst E;go_wp2;go_ret2;exact⟨fun _=>rfl,fun h=>by rw[HF.o]at h;exact yb h (by simp),Z⟩
  .have HF:Hid (pi l u lim=false):=(by show _=_;unfold pi;rw[<-s.o];simp[E]);have b2:((n:Int)==20)=false:=(by rw[xf];omega);have HS:Hid (setQ l u lim=(othQ l u).take P++[(u,lim)]++(othQ l u).drop P):=(by show _=_;unfold setQ;rw[zb N.o,HP.o]);have a1:=Lib.hid (Zu (xT.of_owns j.o));have aj:Hid (∀(W:World),Below O O W->Calls prog 155 #[(q,n,c),P,.slice (some ⟨W.heap.size,0,none⟩) 1 1] (W.alloc (.cells #[u,lim] 176)) (nn w1 (setQ l u lim) (W.alloc (.cells #[u,lim] 176)))):=fun W L=>(by have U:=th j.o L;have:=Ny w1 P (q,n,c) (othQ l u) u lim W (W.alloc (.cells #[u,lim] 176)) (by have:=L.size;simp;omega) (by rw[<-s.o];omega) (by rw[HP.o];exact am.o) (by rw[<-s.o];have:=U.alloc (.cells #[u,lim] 176);rw[<-s.o]at this;exact this) (zT W _) (fun g hg=>by have:=(U.lt g (by rw[<-s.o]at *;exact hg)).2;omega);rw[<-HS.o]at this;exact this);have aE:Hid (∀g,q=some g->True):=fun _ _=>trivial;go_wp2;go_loopw [10] (fun i wr=>∃k:Nat,k<=n/\i=.int .i64 k/\Hid (P=k+posQ ((othQ l u).drop k) u)/\Below O O wr) (fun i _=>n-(intOf i).toNat);case atStart=>exact⟨0,by omega,rfl,by show _=_;rw[HP.o,wz,yL],zB⟩
   case round=>
    obtain⟨k,hk,rfl,HO,HB⟩:=hrel;have aI:wr.cell? (w.heap.size,0)=some (.int .i64 u):=(by rw[HB.cell (p:=⟨w.heap.size,0,none⟩) (by show w.heap.size<_;omega)];exact ak);have Q:∀W t J,P=k->Below O O W->nn w1 (setQ l u lim) (W.alloc (.cells #[u,lim] 176)) (.returned t) J->ir l u lim w (.returned (.tuple #[t,()])) J:=fun W t J _ L hr=>(by obtain⟨aK,hv,U,hb,_⟩:=hr;cases hv;exact ai.out _ _ (fun _=>KL U (nU D)) HF.o ((Z.trans (L.mono (by omega))).trans ((((xW _ W).alloc zL _).mono (by have:=L.size;omega)).trans (hb.mono (by omega)))));have S:=Lib.hid Q;clear Q;by_cases ar:k<n
    .have al:k<(othQ l u).length:=(by rw[<-s.o];exact ar);have R:=Q7 (othQ l u) u k al;obtain⟨a',c',an,ah⟩:=a1.o;obtain⟨g,o,rfl,hg,hc⟩:=ah (by rw[<-s.o];omega);rw[<-s.o]at an;cases an;obtain⟨x,Hx⟩:=zA ((othQ l u)[k].1);have c0:wr.cell? (g,o+k*2)=some (.int .i64 x):=(by rw[HB.cell (p:=⟨g,o+k*2,none⟩) hg,(hc k al).1,Hx.o]);rw[<-Hx.o]at R;clear hc ah;by_cases K:x<u
     .have aw:Hid (P=k+1+posQ ((othQ l u).drop (k+1)) u):=(by show _=_;rw[HO.o,R,ze K];omega);have d1:decide (x<u)=true:=yf K;clear R;go_wp2
      go_quiet (fail)
      go_wp2;go_roundw;case rel=>exact⟨k+1,by omega,by go_num,aw,wY HB _⟩
      case measure=>simp[intOf];omega
     .have A:Hid (P=k):=(by show _=_;rw[HO.o,R,zb K];rfl);have d1:decide (x<u)=false:=zK K;clear R;go_wp2
      go_quiet (fail)
      go_wp2_with fail
      have m:=aj.o;rw[A.o]at m;refine (m _ (wY HB _)).mono ?_;rintro e w4 ⟨v4,rfl,d,I,C⟩;have H:=S.out _ v4 w4 A.o (wY HB _) ⟨v4,rfl,d,I,C⟩;have V:=Lib.hid H;clear d I C H m;go_wp2;go_ret2;exact V.o
    .have ap:k=n:=(by omega);subst ap;have A:Hid (P=k):=(by show _=_;rw[HO.o,vm (by rw[<-s.o];omega)];rfl);have d1:decide (k<k)=false:=zK (by omega);have d2:decide ((k:Int)<(k:Int))=false:=zK (by omega);obtain⟨z,hz⟩:∃z:Nat,z=0:=⟨0,rfl⟩
     .go_wp2
      go_quiet (fail)
      go_wp2_with fail
      have m:=aj.o;rw[A.o]at m;refine (m _ (wY HB _)).mono ?_;rintro e w4 ⟨v4,rfl,d,I,C⟩;have H:=S.out _ v4 w4 A.o (wY HB _) ⟨v4,rfl,d,I,C⟩;have V:=Lib.hid H;clear d I C H m;go_wp2;go_ret2;exact V.o
def mA (l:List (Int×Int)):List Int:=l.flatMap fun x=>[x.1,x.2%256,x.2 / 256]
theorem Wb (l:List (Int×Int)):(mA l).length=l.length*3:=by
 induction l with
 | nil=>rfl
 | cons x l a=>simp only[mA,xA,zl,yz,xP]at *;omega
theorem Lo (a b:List (Int×Int)):mA (a++b)=mA a++mA b:=by simp[mA]
def sr (n:Int) (l:List (Int×Int)):List Int:=n::(mA l++List.replicate (63-l.length*3) 0)
theorem WO (n:Int) (l:List (Int×Int)) (h:l.length<=20):(sr n l).length=64:=by have:=Wb l;simp[sr];omega
theorem Pc (n:Int) (l:List (Int×Int)) (x:Int×Int) (h:l.length<20):
 (((byts (sr n l)).setIfInBounds (l.length*3+1) (.int .u8 x.1)).setIfInBounds (l.length*3+2) (.int .u8 (x.2%256))).setIfInBounds (l.length*3+3) (.int .u8 (x.2 / 256))=byts (sr n (l++[x])):=by
 have a:=Wb l;unfold byts sr;rw[Lo,zl,show 63-l.length*3=(60-l.length*3)+1+1+1 by omega,vI,vI,vI,show 63-(l.length+[x].length)*3=60-l.length*3 by simp;omega];simp only[zM,yB,yI,yh];rw[vU _ _ (by simp;omega)];rw[show l.length*3-(List.map (fun n=>Value.int IntKind.u8 n) (mA l)).length=0 by simp;omega];rw[vU _ _ (by simp;omega)];rw[show l.length*3+1-(List.map (fun n=>Value.int IntKind.u8 n) (mA l)).length=1 by simp;omega];rw[vU _ _ (by simp;omega)];rw[show l.length*3+2-(List.map (fun n=>Value.int IntKind.u8 n) (mA l)).length=2 by simp;omega];simp[mA]
theorem make64 (W:World):(Instr.makeSlice 23 (.int .i64 64) (.int .i64 64)).run prog W=.ok (.slice (some ⟨W.heap.size,0,none⟩) 64 64) (W.alloc (.cells (byts (sr 0 [])) 5)):=by kernel_rfl
theorem Mr (n:Int):(byts (sr 0 [])).setIfInBounds 0 (.int .u8 n)=byts (sr n []):=rfl
def LW (l:List (Int×Int)) (w:World) (e:Ending) (w':World):Prop:=
 ∃g,e=.returned (.tuple #[.slice (some ⟨g,0,none⟩) 64 64,()])/\w.heap.size<=g/\w'.heap[g]?=some (.cells (byts (sr l.length l)) 5)/\Below w w w'
theorem Zj {l:List (Int×Int)} (h:sf l=0):l.length<=20/\okQ l=true:=by
 unfold sf at h;split at h
 .cases h
 .split at h
  .exact⟨by omega,by assumption⟩
  .cases h
theorem Pd (v:Value) (l:List (Int×Int)) (w:World) (h:xT w v 2 l.length (wT l)) (d:l.length<=1000000) (c:Int) (f:Hid (sf l=c)) (g:(c != 0)=true):
 Calls prog 102 #[v] w fun e w'=>e=.returned (.tuple #[.slice none 0 0,c])/\Below w w w':=by
 have a:=Lib.hid (Kx v l w h d);rw[f.out]at a;clear h;go_enter func102,ntmps102;go_wp2_with fail
 refine a.o.mono ?_;rintro e w' ⟨rfl,b⟩;go_wp2;go_ret2;exact⟨rfl,b⟩
theorem Jl (v:Value) (l:List (Int×Int)) (w:World) (h:xT w v 2 l.length (wT l)) (hr:sf l=0):
 Calls prog 102 #[v] w (LW l w):=by
 obtain⟨D,F⟩:=Zj hr;have O:=Kx v l w h (by omega);rw[hr]at O;have R:=Lib.hid O;have M:=Lib.hid F;obtain⟨a,c,hv,HC⟩:=Zu h;obtain⟨n,E⟩:=zA l.length;rw[<-E.o]at hv D;have J:=Lib.hid HC;clear HC h F hr O;subst hv;unfold LW;rw[<-E.o];obtain⟨u,S⟩:=zA (byts (sr 0 []));have P:∀W:World,(Instr.makeSlice 23 (.int .i64 64) (.int .i64 64)).run prog W=.ok (.slice (some ⟨W.heap.size,0,none⟩) 64 64) (W.alloc (.cells u 5)):=fun W=>by rw[S.o];exact make64 W
 go_enter func102,ntmps102
 go_wp2_with fail
 refine R.o.mono ?_;rintro e d ⟨rfl,C⟩;have b:=C.size;obtain⟨B,HB⟩:=zA d.heap.size;have z:Hid ((d.alloc (.cells u 5)).heap[B]?=some (.cells u 5)):=by show _=_;rw[HB.o];exact zH
 have K:Below w w (d.alloc (.cells u 5)):=C.alloc b _;have G:(d.alloc (.cells u 5)).cell? (B,0)=some (.int .u8 0):=by rw[zC z.out,S.o];rfl
 have f0:(d.alloc (.cells u 5)).frozen? (B,0)=false:=zF z.out;rw[HB.o]at G f0;have N:(n:Int)%256=(n:Int):=by omega
 go_wp2_with fail
 have T:Hid ((d.alloc (Obj.cells (u.setIfInBounds 0 (Value.int IntKind.u8 n)) 5)).heap[d.heap.size]?=some (.cells (byts (sr n (l.take 0))) 5)):=by show _=_;rw[zT,S.o,Mr];rfl
 have Q:Below w w (d.alloc (Obj.cells (u.setIfInBounds 0 (Value.int IntKind.u8 n)) 5)):=C.alloc b _;clear P z K G f0 N;go_loopw [21] (fun i wr=>∃k:Nat,k<=n/\i=.int .i64 k/\Below w w wr/\Hid (wr.heap[d.heap.size]?=some (.cells (byts (sr n (l.take k))) 5))) (fun i _=>n-(intOf i).toNat);case atStart=>exact⟨0,ye _,rfl,Q,T⟩
 case round=>
  obtain⟨k,hk,rfl,m,r⟩:=hrel;by_cases I:k<n
  .have f:k<l.length:=(by rw[<-E.o];exact I);obtain⟨g,o,rfl,Z,U⟩:=J.o (by omega);obtain⟨x,L⟩:=zA (l[k].1);obtain⟨y,V⟩:=zA (l[k].2);have c0:wr.cell? (g,o+k*2)=some (.int .i64 x):=(by rw[m.cell (p:=⟨g,o+k*2,none⟩) Z,(U k f).1,L.o]);have c1:wr.cell? (g,o+k*2+1)=some (.int .i64 y):=(by rw[m.cell (p:=⟨g,o+k*2+1,none⟩) Z,(U k f).2,V.o]);have ho:=(lQ l k).1 (ik M.o k f);rw[jw l k f,<-L.o,<-V.o]at ho;obtain⟨G,x1,y0,y1,_⟩:=ho;have t:(l.take k).length=k:=(by rw[zi,<-E.o];omega);have X:Hid (l.take (k+1)=l.take k++[(x,y)]):=(by show _=_;rw[<-zY f,L.o,V.o]);have A:(byts (sr n (l.take k))).size=64:=(by have:=WO n (l.take k) (by omega);simpa[byts]using this);have hB:d.heap.size<wr.heap.size:=xL r.o;have q:∀j,j<64->∃x,wr.cell? ⟨d.heap.size,j,none⟩=some x:=fun j hj=>(by rw[zC r.o];exact⟨_,xt (by rw[A];exact hj)⟩);obtain⟨z1,ai⟩:=q (3*k+1) (by omega);obtain⟨z2,aj⟩:=q (3*k+2) (by omega);obtain⟨z3,al⟩:=q (3*k+3) (by omega);have f1:wr.frozen? (d.heap.size,3*k+1)=false:=zF r.o;have f2:wr.frozen? (d.heap.size,3*k+2)=false:=zF r.o;have f3:wr.frozen? (d.heap.size,3*k+3)=false:=zF r.o;have ak:=Lib.hid A;have s:=Lib.hid t;clear q U A t;go_wp2
   go_region
   all_goals
    go_wp2;go_roundw;case rel=>
     refine⟨k+1,by omega,by go_num,?_,?_⟩
     .exact ((((m.setCell b _).setCell b _).setCell b _).alloc (((m.setCell b _).setCell b _).setCell b _).size _).drew
     .have h1:=tf (zX _ _ (3*k+3) _ _ (.int .u8 (y / 256)) (zX _ _ (3*k+2) _ _ (.int .u8 (y%256)) (zX _ _ (3*k+1) _ _ (.int .u8 x) r.o))) (Obj.cells #[Value.int IntKind.i64 x,Value.int IntKind.i64 y] 176);have Y:=Pc n (l.take k) (x,y) (by rw[s.o];omega);rw[s.o,show k*3=3*k by omega,<-X.o]at Y;show _=_;rw[<-Y];exact h1
    case measure=>simp[intOf];omega
  .have H:k=n:=(by omega);have HF:Hid (l.take k=l):=(by show _=_;rw[H,E.o];exact xN);have H4:Hid (wr.heap[d.heap.size]?=some (.cells (byts (sr n l)) 5)):=(by have:=r.o;rw[HF.o]at this;exact this);clear r HF;go_wp2;go_ret2;exact⟨_,rfl,b,H4.o,m⟩
end Go.Proofs.YtakfhadmokoikaaGreatDoor
namespace Go.Proofs.YtakfhadmokoikaaGreatDoor
open Go.Proofs.Tryz
variable {l:List (Int×Int)} {lim u:Int}
def Srt (l:List (Int×Int)):Prop:=(∀x∈l,0<=x.1/\x.1<=255/\0<=x.2/\x.2<=256)/\l.Pairwise (fun a b=>a.1<b.1)
theorem iF (l:List (Int×Int)):okQ l=true↔Srt l:=by
 constructor
 .intro h;have c:=fun i a=>(lQ l i).1 (ik h i a);constructor
  .intro x m;obtain⟨i,a,rfl⟩:=uA.1 m;have:=c i a;rw[jw l i a]at this;omega
  .rw[wv];intro i j a d f
   induction j with
   | zero=>omega
   | succ j g=>
    have b:=c (j+1) d;rw[jw l (j+1) d,sj,jw l j (by omega)]at b;by_cases e:i=j
    .subst e;omega
    .have:=g (by omega) (by omega);omega
 .rintro ⟨k,b⟩;refine ZG fun i a=>(lQ l i).2 ?_;rw[jw l i a];have:=k _ (zz a);refine⟨by omega,by omega,by omega,by omega,?_⟩;by_cases e:i=0
  .exact zt e
  .right;rw[jw l (i-1) (by omega)];exact (wv.1 b) (i-1) i (by omega) a (by omega)
theorem Y0 {x:Int×Int} (h:x∈othQ l u):x∈l/\x.1≠u:=by unfold othQ at h;rw[vt]at h;exact⟨h.1,by simpa using h.2⟩
theorem SG (l:List (Int×Int)) (u:Int):∀x∈l.take (posQ l u),x.1<u:=by
 induction l with
 | nil=>intro x a;simp at a
 | cons y l b=>
  intro x a;unfold posQ at a;split at a
  .rw[wV]at a;rcases yN.1 a with rfl|a
   .assumption
   .exact b x a
  .simp at a
theorem Q6 (l:List (Int×Int)) (u:Int) (e:l.Pairwise (fun a b=>a.1<b.1)):∀x∈l.drop (posQ l u),u<=x.1:=by
 induction l with
 | nil=>intro x c;simp at c
 | cons y l d=>
  intro x c;rw[ww]at e;unfold posQ at c;split at c
  .rw[wX]at c;exact d e.2 x c
  .rw[wz]at c;rcases yN.1 c with rfl|c
   .omega
   .have:=e.1 x c;omega
theorem Uu (u:Int) (h:Srt l):Srt (othQ l u):=⟨fun x a=>h.1 x (Y0 a).1,h.2.filter _⟩
theorem Ut (h:Srt l) (p:0<=u) (n:u<=255) (q: -1<=lim) (o:lim<=256):Srt (setQ l u lim):=by
 unfold setQ;have f:=Uu u h;split
 .exact f
 .have c:=SG (othQ l u) u;have e:=Q6 (othQ l u) u f.2;have j:∀x∈(othQ l u).drop (posQ (othQ l u) u),x.1≠u:=fun x d=>(Y0 (xY d)).2;refine⟨fun x d=>?_,?_⟩
  .simp only[yv,yN,yE,qG]at d;rcases d with (d|rfl)|d
   .exact f.1 x (xd d)
   .simp only;omega
   .exact f.1 x (xY d)
  .rw[tH,tH];refine⟨⟨f.2.sublist (List.take_sublist _ _),by simp,fun a g b i=>?_⟩,f.2.sublist (List.drop_sublist _ _),fun a g b i=>?_⟩
   .simp at i;subst i;exact c a g
   .have m:=e b i;have k:=j b i;simp only[yv,yN,yE,qG]at g;rcases g with g|rfl
    .have:=c a g;omega
    .simp only;omega
theorem Ux (h:l.length<=20) (b:pi l u lim=false):(setQ l u lim).length<=20:=by
 have:=Y1 l u;unfold setQ;split
 .omega
 .rename_i a;have:(othQ l u).length≠20:=fun e=>by unfold pi at b;simp[e,a]at b
  have:=Yb (othQ l u) u;simp;omega
