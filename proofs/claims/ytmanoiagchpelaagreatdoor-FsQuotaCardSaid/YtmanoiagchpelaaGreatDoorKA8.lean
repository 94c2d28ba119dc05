import Derived.Test.YtmanoiagchpelaaGreatDoorKA7
import Derived.Lib.BufferWrite
import Derived.Deep.RegionHeldLaw
import Derived.Deep.RegionHeld3
import Derived.Laws.StructEq
import Derived.Lib.AppendZerosOnto
import Derived.Lib.AppendZeros
import Derived.Deep.DeepAppendWide
import Derived.Deep.AppendLies
set_option maxHeartbeats 0
set_option linter.all false
set_option maxRecDepth 100000
namespace Go.Proofs.YtmanoiagchpelaaGreatDoor
open Go.Proofs.Tryz Go.RowKit
variable {B g n:Nat} {D:List Int} {W w w':World} {fr:Nat×Nat} {k m s u up:Int} {t:TypeId} {v:Value}
abbrev ZB:=@Lib.run_append_grow_zeros
abbrev tF:=@step_append_lies
abbrev xE:=@World.news_of_block
theorem fW: (prog.info? 5).map (fun i=>(i.zero,i.size,i.bytes))=some (some (.int .u8 0),1,1):=by kernel_rfl
theorem u8sT: prog.underlying 56=some (.slice 5):=by kernel_rfl
theorem jw: (prog.info? 5).map (·.size)=some 1:=by kernel_rfl
def lF (D:List Int) (w:World) (v:Value) (w':World):Prop:=
 ∃g cap cur,v=.slice (some ⟨g,0,none⟩) D.length cap/\(w.heap.size<=g/\D.length<=cap)/\w'.heap[g]?=some (.cells cur 5)/\cur.toList.take D.length=u8s D/\Below w w w'
theorem pD {cap:Nat} {cur:Array Value} (c:D.length=n) (h:w.heap[g]?=some (.cells cur t fr)) (d:cur.toList.take n=u8s D):
 vQ w (g,0,n,cap) D:=by
 refine⟨by rw[uo];omega,zu ⟨g,0,cap,by rw[c],fun j x a=>?_⟩⟩;rw[yO,wM _ _ j _ t fr h];have b:=(zJ.1 a).1;rw[uo]at b;rw[<-d,zI,ze (by omega)]at a;simpa using a
theorem lF.at (h:lF D w v w'):vQ w' v D:=by obtain⟨g,d,a,rfl,_,c,b,_⟩:=h;exact pD rfl c b
theorem lF.below (h:lF D w v w'):Below w w w':=by obtain⟨g,b,a,rfl,_,e,d,c⟩:=h;exact c
def l7 (D:List Int) (w:World) (e:Ending) (w':World):Prop:=∃v,e=.returned v/\lF D w v w'
theorem Zt (v:Value) (D:List Int) (w:World) (h:vQ w v D) (T:0<D.length) (U:D.length<=1000000):
 Calls prog 134 #[v] w (l7 D w):=by
 obtain⟨M,⟨S,_⟩|⟨g,o,c,rfl,E⟩⟩:=h
 .omega
 obtain⟨L,C,e,f,i⟩:=xy fW;have P:=za C;have z:=za e;have A:=za f;have t:=za i;clear C e f i;have K:=za E;obtain⟨n,m⟩:=zA D.length;rw[<-m.o]at T U ⊢;clear E M;have I:∀(w) (a) (n c p r),(binOp .eql 56 (.slice a n c) (.slice none p r)).run prog w=.ok (.bool a.isNone) w:=fun w a n c p r=>Lib.run_eql_slice_nil w _ _ a n c p r u8sT;go_enter func134,ntmps134;go_wp2_with (at_builtin;refine yI _ rfl _ _ 56 rfl w.heap.size 5 L (.int .u8 0) 1 1 u8sT P.o z.o A.o t.o rfl (by decide) _ _ _ rfl (uW w #[] 0 zL zZ rfl) ⟨g,o,none⟩ n c (u8s D) rfl ?qc1 ?qc2 ?qc3 ?qc4 ?qc5 ?qc6 ?_)
 case qc1=>rw[uo,<-m.o];omega
 case qc2=>
  intro j u O;have l:(⟨g,o,none⟩:Addr).add j=⟨g,o+j,none⟩:=by unfold Addr.add;split<;>simp_all
  rw[l];have:=K.o j u O;rw[wN _ _ _ (zG this)];exact this
 case qc3=>exact mG D
 case qc4=>unfold maxLen;omega
 case qc5=>omega
 case qc6=>simp
 intro F Q d b B;go_wp2;go_ret;refine⟨F,rfl,?_⟩;obtain⟨_,⟨_,R⟩|⟨J,x,y,rfl,s,N,q,_,_,G⟩⟩:=d
 .omega
 .refine⟨J,x,y,by rw[m.o],⟨s,by rw[<-m.o];exact q⟩,N,by rw[<-m.o];simpa using G,?_⟩;exact ((x9 _ w).alloc zL _).grown b (by simp) (by intro k H;simp[Value.ownBlock]at H;omega)
section
variable {w : World} {gd gs gn : Nat} {wt : Value} {E : List (Nat×Value)} {st : Dk} {L k : Nat} {F : Nat->Prop}
theorem Lies.c0 (h:Lies w gd gs gn wt E st L k F):w.cell? (gd,0)=some (.slice (some ⟨gs,0,none⟩) L L):=zC h.hd
theorem Lies.c1 (h:Lies w gd gs gn wt E st L k F):w.cell? (gd,1)=some (.slice (some ⟨gn,0,none⟩) L L):=zC h.hd
theorem Lies.c2 (h:Lies w gd gs gn wt E st L k F):w.cell? (gd,2)=some wt:=zC h.hd
theorem Lies.c3 (h:Lies w gd gs gn wt E st L k F):w.cell? (gd,3)=some (.int .i64 st.fu):=zC h.hd
theorem Lies.z (h:Lies w gd gs gn wt E st L k F) (i):w.frozen? ⟨gd,i,none⟩=false:=by simp[World.frozen?,h.hd]
theorem Up (h:Lies w gd gs gn wt E st L k F):Calls prog 93 #[(gd,())] w fun e w'=>e=.returned k/\w=w':=by
 have f:=h.c1;have a:=h.hL;have c:=h.k1;have b:=za a;have d:L<=1000000:=by omega
 clear h a;go_enter func93,ntmps93;go_wp2;go_ret;have:=b.o;exact⟨ret_i (by omega),rfl⟩
def decF (f:Int):Int:=if 0<f then f-1 else f
theorem WU (h:Lies w gd gs gn wt E st L k F) (b:st.fu=0):Calls prog 148 #[(gd,())] w fun e w'=>e=.returned (.bool false)/\w=w':=by have a:=h.c3;rw[b]at a;clear h b;go_enter func148,ntmps148;go_wp2;go_ret;exact⟨rfl,rfl⟩
theorem WT (h:Lies w gd gs gn wt E st L k F) (m:st.fu≠0):Calls prog 148 #[(gd,())] w fun e w'=>e=.returned (.bool true)/\Lies w' gd gs gn wt E {st with fu:=decF st.fu} L k F/\yQ F w w':=by
 have d:=h.c3;have l:=h.z 3;have g:=h.f0;have a:=h.f1;have H:=za h;obtain⟨f,b⟩:=zA st.fu;rw[<-b.o]at d m g a ⊢;clear h;by_cases c:0<f
 .have i:(f==0)=false:=by simpa using m
  clear m;go_enter func148,ntmps148;go_wp2;go_ret;have e:decF f=f-1:=by unfold decF;rw[ze c]
  rw[e];exact⟨rfl,H.o.setFu _ (by omega) (by omega),yQ.setCell H.o.fd _⟩
 .have i:(f==0)=false:=by simpa using m
  clear m;go_enter func148,ntmps148;go_wp2;go_ret;have e:decF f=f:=by unfold decF;rw[zb (by omega)]
  rw[e];have j:({st with fu:=f})=st:=by rw[b.o]
  rw[j];exact⟨rfl,H.o,yQ.refl _ _⟩
theorem O8 {l:List Int} {c:Nat} (d:l.length=64*k) (e:n<k) (h:w.heap[g]?=some (.cells (u8s l).toArray t fr)):
 vQ w (.slice (some (g,n*64)) 64 c) (sec l n):=by
 refine⟨by rw[uo];omega,zu ⟨g,n*64,c,by rw[mI d e],fun j x a=>?_⟩⟩;rw[wM _ _ _ _ t fr h];have b:=(zJ.1 a).1;rw[uo,mI d e]at b;unfold sec at a;rw[oV,mL,zI,ze b,yw]at a;rw[xM,nT];exact a
def Vp (D:List Int) (w:World) (e:Ending) (w':World):Prop:=∃v,e=.returned (.tuple #[v,()])/\lF D w v w'
theorem PK (h:Lies w gd gs gn wt E st L k F) (n:Nat) (t:n<k):Calls prog 92 #[(gd,()),n] w (Vp (sec st.N n) w):=by
 have s:=h.c1;have a:st.N.length=64*k:=by rw[h.ln,h.hL]
 have q:=h.k1;have j:Hid (∀c,vQ w (.slice (some (gn,n*64)) 64 c) (sec st.N n)):=fun c=>O8 a t h.hn;have b:=za (mI a t);have H:=za h;have r:64*k<=L:=by have:=h.hL;omega
 have m:L<=64*k:=by have:=h.hL;omega
 clear h a;have p:¬k<=(n:Int):=by omega
 have f:0<=(n:Int):=by omega
 have g:(n+1)*64<=(L:Int):=by omega
 have d:¬L=n*64:=by omega
 go_enter func92,ntmps92
 go_wp2_with fail
 refine (Up H.o).mono ?_;rintro e i ⟨rfl,rfl⟩;go_wp2_with fail
 rw[show (n+1)*64-n*64=64 by omega];refine (Zt _ _ _ (j.o _) (by rw[b.o];omega) (by rw[b.o];omega)).mono ?_;rintro e i ⟨v,rfl,l⟩;go_wp2;go_ret2;exact⟨v,rfl,l⟩
end
theorem ka {g l:Int} (h:W.heap[B]?=some (.cells #[k,m,u,g,s,l,up,v] t)):W.cell? (B,0)=some (.int .i64 k)/\W.cell? (B,1)=some (.int .i64 m)/\W.cell? (B,2)=some (.int .i64 u)/\W.cell? (B,3)=some (.int .i64 g)/\W.cell? (B,4)=some (.int .i64 s)/\W.cell? (B,5)=some (.int .i64 l)/\W.cell? (B,6)=some (.int .i64 up)/\W.cell? (B,7)=some v:=by have c:=fun j=>wM W B j _ t (0,0) h;exact⟨c 0,c 1,c 2,c 3,c 4,c 5,c 6,c 7⟩
def mf (P:List Int):Nat:=(P.filter fun p=> !(p==0)).length
theorem Nr (P) (p):mf (P++[p])=mf P+(if (p==0)=true then 0 else 1):=by unfold mf;rw[oO,zm];cases h:(p==0)<;>simp[h]
theorem Xk (P):mf P<=P.length:=vh _ _
theorem SO (k m u g s l up) (v) (P) (w) (h:vT w v P) (V:P.length<=1000000):
 Calls prog 115 #[.agg #[.int .i64 k,.int .i64 m,.int .i64 u,.int .i64 g,.int .i64 s,.int .i64 l,.int .i64 up,v]] w fun e w'=>e=.returned (.int .i64 (mf P))/\Below w w w':=by
 obtain⟨N,n⟩:=zA P.length;obtain⟨p,t,K,O⟩:∃p t,v=.slice p N t/\Hid (∀W:World,Below w w W->0<N->∃g o,p=some ⟨g,o,none⟩/\∀j (D:j<P.length),W.cell? ⟨g,o+j,none⟩=some (.int .i64 P[j])):=by
  rw[n.o];obtain⟨_,⟨G,L,M,rfl⟩|⟨g,o,r,rfl,f⟩⟩:=h
  .exact⟨L,M,by rw[G],fun _ _ h=>by omega⟩
  .refine⟨_,r,rfl,fun W H _=>⟨g,o,rfl,fun j D=>?_⟩⟩;have:=f _ _ (mu P j D);exact (H.cell (zG this)).trans this
 rw[<-n.o]at V;subst K;clear h;have z:Below w w (w.alloc (.cells #[k,m,u,g,s,l,up,(p,N,t)] 123)):=zB.alloc zL _;go_enter func115,ntmps115;go_wp2
 go_loop [3,9] (fun c i=>∃k:Nat,k<=N/\i=.int .i64 k/\∃x:Nat,x<=k/\c=.int .i64 x/\Hid (x=mf (P.take k))) (fun _ i=>N-(intOf i).toNat)
 case atStart=>exact⟨0,ye _,rfl,0,ye _,rfl,rfl⟩
 case round=>
  obtain⟨k,Q,rfl,x,U,rfl,C⟩:=hrel;by_cases q:k<N
  .obtain⟨g,o,rfl,f⟩:=O.o _ z (by omega);have d:k<P.length:=(by rw[<-n.o];exact q);have J:=f k d;obtain⟨y,A⟩:=zA (P[k]);rw[<-A.out]at J;have E:Hid (mf (P.take (k+1))=x+(if (y==0)=true then 0 else 1)):=(by show _=_;rw[<-zR d,Nr,<-C.o,<-A.out]);have R:=za f;clear f;have B:k<(N:Int):=(by omega);by_cases a:y=0
   .subst a;have b:Hid (x=mf (P.take (k+1))):=(by rw[E.o];simp[Hid]);go_wp2
    go_round
    case rel=>exact⟨k+1,by omega,by go_num,x,by omega,rfl,b⟩
    case measure=>simp[intOf];omega
   .have F:(y==0)=false:=(by simpa using a);have T:(y != 0)=true:=(by simpa using a);have b:Hid (x+1=mf (P.take (k+1))):=(by rw[E.o,F];simp[Hid]);have S:=za a;clear a;go_wp2
    go_round
    case rel=>exact⟨k+1,by omega,by go_num,x+1,by omega,by go_num,b⟩
    case measure=>simp[intOf];omega
  .have I:Hid (x=mf P):=(by have:=C.o;rw[zv (by rw[<-n.o];omega)]at this;exact this);go_wp2;go_ret;rw[I.o];exact⟨rfl,z⟩
theorem Ri (k m u g s l up) (v) (w):
 Calls prog 74 #[.agg #[.int .i64 k,.int .i64 m,.int .i64 u,.int .i64 g,.int .i64 s,.int .i64 l,.int .i64 up,v]] w fun e w'=>e=.returned (.agg #[.int .i64 k,.int .i64 m,.int .i64 u,.int .i64 g,.int .i64 s,.int .i64 l])/\Below w w w':=by
 go_enter func74,ntmps74
 go_wp2;refine yV (v:=.agg #[k,m,u,g,s,l]) (by simp[results,results74,go_sem]) rfl ⟨rfl,?_⟩;exact (zB.alloc zL _).alloc (by simp) _
theorem uT {g l:Int} (h:W.heap[B]?=some (.cells #[k,m,u,g,s,l,up,v] t)):W.cell? (B,0)=some (.int .i64 k)/\W.cell? (B,1)=some (.int .i64 m)/\W.cell? (B,2)=some (.int .i64 u)/\W.cell? (B,3)=some (.int .i64 g)/\W.cell? (B,4)=some (.int .i64 s)/\W.cell? (B,5)=some (.int .i64 l)/\W.cell? (B,6)=some (.int .i64 up)/\W.cell? (B,7)=some v:=by have c:=fun j=>wM W B j _ t (0,0) h;exact⟨c 0,c 1,c 2,c 3,c 4,c 5,c 6,c 7⟩
theorem Ki (w) (g i n) (cur) (l) (s:w.heap[g]?=some (.cells cur 187)) (x:cur.size=n*2) (t:cur.toList.take (n*2)=wY l) (y:n=l.length) (u:i<n) (z:n<=1000000):
 ∃(G:Nat) (zs:List Value),n+1<=G/\G<=maxLen/\zs.length=(G-i)*2/\∀ty,(Builtin.append_ #[107,3] ty #[.slice (some ⟨g,0,none⟩) i n,.int .i64 (n+1-i)]).run prog w =
  .ok (.slice (some ⟨w.heap.size,0,none⟩) (n+1) G) (w.drew.alloc (.cells (wY (l.take i)++zs).toArray 187)):=by
 obtain⟨k,r,p,e,a⟩:=xy ji;have d:(wY (l.take i)).length=i*k.size:=by rw[rN,zj,e];congr 1;omega
 have c:(Builtin.firstCells k.size i (g,0,i,n)).run prog w.drew=.ok (wY (l.take i)).toArray w.drew:=
  run_firstCells_some _ _ _ _ _ _ _ d fun j v o=>by have b:(⟨g,0,none⟩:Addr).add j=⟨g,0+j,none⟩:=(by unfold Addr.add;split<;>simp_all);have m:=(zJ.1 o).1;rw[d,e]at m;rw[b,yO,wM w.drew g j cur 187 (0,0) s];rw[(UJ l i (by omega)).2,<-t,zI,ze (by omega),zI,ze (by omega)]at o;simpa using o
 have q:(n+1-i)=((n+1-i:Nat):Int):=by omega
 have f:prog.underlying 3=some (.int .i64):=by kernel_rfl
 refine⟨grownCap w (n+1) n 187,(Builtin.zeroCells #[(),()] (n+1-i)++Builtin.zeroCells #[(),()] (grownCap w (n+1) n 187-(n+1))).toList,lH _ _ _ _,grownCap_le_maxLen _ _ _ _ (by unfold maxLen;omega),?_,fun ty=>?_⟩
 .have:=lH w (n+1) n 187;rw[yv,Array.size_append,qG,qG];show (n+1-i)*2+(_-(n+1))*2=_;omega
 .have h:=ZB (P:=prog) w 107 3 ty 187 k _ .i64 .i64 rowT f r p (some ⟨g,0,none⟩) i n (wY (l.take i)) c (n+1-i) (by omega) (by omega) (by omega) (by omega) (by rw[a];omega) (by rw[a];exact growslice_fits_wide (by omega) (by omega));rw[show i+(n+1-i)=n+1 by omega]at h;rw[q,h]
  congr 3
  simp[Array.append_assoc,Value.cells]
theorem Lh (B g i n:Nat) (cur:Array Value) (l:List (Int×Int)) (x y:Int) (h:Nat) (w:World) (au:B<=w.heap.size) (HN:Hid (n=l.length)) (hl:n<=1000000) (aw:i<n) (ay:g<w.heap.size) (a0:h<w.heap.size)
 (HG:Hid (w.heap[g]?=some (.cells cur 187))) (HS:Hid (cur.size=n*2)) (HT:Hid (cur.toList.take (n*2)=wY l)) (HH:Hid (w.heap[h]?=some (.cells #[x,y] 187))):
 Calls prog 132 #[(g,0,n,n),i,.slice (some ⟨h,0,none⟩) 1 1] w (no B (l.take i++[(x,y)]++l.drop i) w):=by
 obtain⟨G,V,az,L,D,c⟩:=Ki w g i n cur l HG.o HS.o HT.o HN.o aw hl;have K:=L;unfold maxLen at L;have ag:(i:Int)<(n:Int):=by omega
 have am:((i:Int)==(n:Int))=false:=by rw[xr];omega
 have ar:(i==n)=false:=by rw[xr];omega
 have ax:decide (i=n)=false:=zz (by omega);have an:i≠G:=by omega
 have af:i+1≠G:=by omega
 have p1:=zW ((i:Int)+1) (by omega);have p3:((i:Int)+1).toNat=i+1:=by omega
 have p4:(0:Int)<=(i:Int)+1:=by omega
 have p6:(i:Int)+1<=(n:Int)+1:=by omega
 have aq:(i:Int)+1<=(G:Int):=by omega
 have p7:¬G=i+1:=by omega
 have p8:¬G=i:=by omega
 have p9:(i:Int)<=(n:Int)+1:=by omega
 have p5:(n:Int)<(n:Int)+1:=by omega
 have av:¬n=i:=by omega
 have ak:i≠n:=by omega
 have ai:(i:Int)<=(n:Int):=by omega
 have ah:(i:Int)+1<=(n:Int):=by omega
 obtain⟨p,A⟩:=zA ((wY (l.take i)++V).toArray);rw[<-A.o]at c;have Q:p.size=G*2:=by rw[A.o];simp[rN,D];have:=HN.o;omega
 have t:=za Q;have aj:=za D;obtain⟨k,J⟩:=zA w.heap.size;rw[<-J.o]at c;have N:Hid ((w.drew.alloc (.cells p 187)).heap[k]?=some (.cells p 187)):=by show _=_;rw[J.o];exact zT w.drew _
 have aa:Hid ((w.drew.alloc (.cells p 187)).heap[g]?=some (.cells cur 187)):=by show _=_;rw[uk w.drew _ ay];exact HG.o
 have X:Hid ((w.drew.alloc (.cells p 187)).heap[h]?=some (.cells #[x,y] 187)):=by show _=_;rw[uk w.drew _ a0];exact HH.o
 have T:Below B w (w.drew.alloc (.cells p 187)):=(x9 B w).drew.alloc au _;have H:w.heap.size+1=(w.drew.alloc (.cells p 187)).heap.size:=by simp
 generalize w.drew.alloc (.cells p 187)=q at *
 have W:=za c;clear c Q D;have C:B<=k:=by rw[J.o];omega
 have ac:=za H;clear H;have ao:k≠h:=by rw[J.o];omega
 have U:k≠g:=by rw[J.o];omega
 have f:∀(j:Nat) (v:Value),(wY [(x,y)])[j]?=some v->q.cell? ((⟨h,0,none⟩:Addr).add j)=some v:=fun j v M=>by
  have m:(⟨h,0,none⟩:Addr).add j=⟨h,0+j,none⟩:=by unfold Addr.add;split<;>simp_all
  rw[m,yO,zC X.o,<-M,<-zO];rfl
 have s:=fun ty=>U2 (P:=prog) q 107 107 ty 187 2 k (i*2) (n+1-i) (G-i) ⟨h,0,none⟩ 1 1 p 187 (wY [(x,y)]) rowT rowS N.o (by show 2=min 1 (n+1-i)*2;omega) f (by show i*2+2<=_;rw[t.o];omega) (Zo _);obtain⟨e,F⟩:=zA ((p.toList.take (i*2)++wY [(x,y)]++p.toList.drop (i*2+(wY [(x,y)]).length)).toArray);rw[<-F.o]at s;have O:Hid ((q.setRow k e).heap[k]?=some (.cells e 187)):=yh q _ _ _ _ _ N.o;have R:Hid ((q.setRow k e).heap[g]?=some (.cells cur 187)):=jX (w:=q) aa.o _ _ U.symm;have ab:Below B w (q.setRow k e):=V2 T C _;have ad:w.heap.size<=(q.setRow k e).heap.size:=by have:=ac.o;simp[World.setRow];omega
 generalize q.setRow k e=Z at *
 clear f;go_enter nR,od;go_wp2_with (at_builtin;refine Lib.wpList_append_run _ rfl _ _ _ _ rfl _ _ rfl rfl _ _ (W.o _) ?_)
 clear s
 go_still_tail 8,(by kernel_rfl)
 go_wp2_with fail
 obtain⟨a,b⟩:=zA (wY (l.drop i));have r:a.length=(n-i)*2:=by rw[b.o,rN,yB,HN.o]
 have u:∀(j:Nat) (v:Value),a[j]?=some v->Z.drew.cell? ((⟨g,i*2,none⟩:Addr).add j)=some v:=fun j v M=>by
  have m:(⟨g,i*2,none⟩:Addr).add j=⟨g,i*2+j,none⟩:=by unfold Addr.add;split<;>simp_all
  have al:=(zJ.1 M).1;rw[m,wM Z.drew g (i*2+j) cur 187 (0,0) R.o];rw[b.o,(UJ l i (by rw[<-HN.o];omega)).1,yw,<-HT.o,zI,ze (by omega)]at M;simpa using M
 have E:e.size=G*2:=by rw[F.o];simp[rN,t.o];omega
 rw[U2 (P:=prog) Z.drew 107 107 _ 187 2 k ((i+1)*2) (n-i) (G-(i+1)) ⟨g,i*2,none⟩ (n-i) (n-i) e 187 a rowT rowS O.o (by rw[r];congr 1;show n-i=min (n-i) (n-i);omega) u (by rw[r,E];omega) (by rw[b.o];exact Zo _)];obtain⟨D2,z⟩:=zA ((e.toList.take ((i+1)*2)++a++e.toList.drop ((i+1)*2+a.length)).toArray);rw[<-z.o];have S:=za r;have ae:=za E;clear u r E;go_wp2;go_ret;refine⟨_,rfl,?_,V2 ab.drew C _,by simpa[World.setRow]using ad⟩;have d:(l.take i++[(x,y)]++l.drop i).length=n+1:=by simp only[zm,zj,yB,yx,xS];have:=HN.o;omega
 rw[d];have I:(wY (l.take i)).length=i*2:=by rw[rN,zj];have:=HN.o;omega
 have Y:e.toList.take ((i+1)*2)=wY (l.take i++[(x,y)]):=by
  rw[F.o,A.o,oZ];show ((wY (l.take i)++V).take (i*2)++wY [(x,y)]++_).take ((i+1)*2)=_;have e1:(wY (l.take i)++V).take (i*2)=wY (l.take i):=by rw[<-I,qM]
  have e2:(wY (l.take i)++wY [(x,y)]).length=(i+1)*2:=by rw[zm,I,rN];show i*2+1*2=_;omega
  rw[e1,<-e2,qM]
 refine⟨by rw[rN,d],zu ⟨k,G,D2,rfl,C,yh _ _ _ _ _ _ O.o,by omega,K,?_,?_⟩⟩
 .rw[z.o];simp[ae.o,S.o];omega
 .rw[z.o];show (e.toList.take ((i+1)*2)++a++e.toList.drop ((i+1)*2+a.length)).take ((n+1)*2)=_;rw[Y,b.o,<-oZ];rw[yT (by rw[rN,d];omega),zv (by rw[rN,d];omega)]
theorem Mf (B i) (v) (l:List (Int×Int)) (x y) (h) (w) (t:B<=w.heap.size) (z:l.length<=1000000) (C:i<=l.length) (s:w.ownsRow B 187 2 v l.length (wY l))
 (u:w.heap[h]?=some (.cells #[.int .i64 x,.int .i64 y] 187)) (A:∀g,v.ownBlock=some g->h≠g):
 Calls prog 132 #[v,.int .i64 i,.slice (some ⟨h,0,none⟩) 1 1] w (no B (l.take i++[(x,y)]++l.drop i) w):=by
 by_cases o:i=l.length
 .subst o;rw[zv zL,yP zL,yX];exact Me B v l x y h w t z s u
 .have d:i<l.length:=by omega
  obtain⟨m,⟨_,q⟩|⟨g,a,c,rfl,p,f,r,n,k,j⟩⟩:=s
  .omega
  .by_cases b:l.length+1<=a
   .exact Lg B g a i l.length c l x y h w p rfl z d b n (A g rfl) f k j u
   .have e:a=l.length:=(by omega);subst e;exact Lh B g i l.length c l x y h w t rfl z d (xR f) (xR u) f k j u
def posQ : List (Int×Int)->Int->Nat
 | [],_=>0
 | x::l,u=>if x.1<u then posQ l u+1 else 0
theorem YQ (l) (u):posQ l u<=l.length:=by
 induction l with
 | nil=>exact zL
 | cons x l a=>unfold posQ;split<;>simp<;>omega
theorem PO (l:List (Int×Int)) (u) (k) (hk):posQ (l.drop k) u=if l[k].1<u then posQ (l.drop (k+1)) u+1 else 0:=by rw[xp hk];rfl
def setQ (l:List (Int×Int)) (u lim:Int):List (Int×Int):=
 if lim = -1 then othQ l u else (othQ l u).take (posQ (othQ l u) u)++[(u,lim)]++(othQ l u).drop (posQ (othQ l u) u)
def py (l:List (Int×Int)) (u lim:Int):Bool:=decide (lim≠-1)&&decide ((othQ l u).length=20)
def iM (l:List (Int×Int)) (u lim:Int) (w:World) (e:Ending) (w':World):Prop:=
 (py l u lim=true->e=.returned (.tuple #[.slice none 0 0,(6:Int)])) /\
 (py l u lim=false->∃v,e=.returned (.tuple #[v,()])/\w'.ownsRow w 187 2 v (setQ l u lim).length (wY (setQ l u lim)))/\Below w w w'
theorem XG (l) (u):(othQ l u).length<=l.length:=vh _ _
theorem Jg {b b':Nat} {e:TypeId} {size:Nat} {xs:List Value} (h:w.ownsRow b e size v n xs) (k:b'<=b):w.ownsRow b' e size v n xs:=by
 obtain⟨d,i|⟨g,c,a,f,j,r⟩⟩:=h
 .exact⟨d,zr i⟩
 .exact⟨d,zu ⟨g,c,a,f,zt k j,r⟩⟩
theorem Tq (v:Value) (l:List (Int×Int)) (u lim:Int) (w:World) (h:wh w v 2 l.length (wY l)) (hl:l.length<=20) (ab:okQ l=true) (ag:0<=u) (av:u<=255) (ax: -1<=lim) (ay:lim<=256):
 Calls prog 72 #[v,u,lim] w (iM l u lim w):=by
 have ao:rd l=0:=by unfold rd;rw[zb (by omega),ze ab]
 have HR:Hid (∀W:World,Below w w W->Calls prog 128 #[v] W fun e J=>e=.returned ()/\Below W W J):=fun W L=>by have:=K1 v l W (wh.below h L) (by omega);rw[ao]at this;exact this
 have HC:Hid (∀W:World,Below w w W->Calls prog 130 #[v] W (no W l W)):=fun W L=>Kk v l W (wh.below h L) (by omega);have R:Hid (∀(B:Nat) (t:Value) (W:World),B<=W.heap.size->w.heap.size<B->W.cell? (w.heap.size,0)=some (.int .i64 u)->W.ownsRow B 187 2 t l.length (wY l) ->
  Calls prog 129 #[t,fnV w.heap.size] W (no B (othQ l u) W)):=fun B t W h1 h2 h3 h4=>Ka B t l u w W h1 h2 h3 (by omega) h4
 have HL:=za hl;have am:=za (YQ (othQ l u) u);clear ao h ab;have au:(othQ l u).length<=20:=zt (XG l u) hl;have h1:¬u<0:=by omega
 go_enter func72,ntmps72
 go_wp2_with fail
 refine (HR.o _ ((x9 _ w).alloc zL _)).mono ?_;rintro e w1 ⟨rfl,M⟩;have aa:Below w w w1:=((x9 _ w).alloc zL _).trans (M.mono (by simp));have D:w.heap.size<w1.heap.size:=by have:=M.size;simp at this;omega
 have T:w1.cell? (w.heap.size,0)=some (.int .i64 u):=by rw[M.cell (p:=⟨w.heap.size,0,none⟩) (by simp)];simp
 clear M;go_wp2_with fail
 refine (HC.o _ aa).mono ?_;rintro e w2 ⟨v2,rfl,y,X,aq⟩;have af:Below w w w2:=aa.trans (X.mono (by omega));have G:w2.cell? (w.heap.size,0)=some (.int .i64 u):=by rw[X.cell (p:=⟨w.heap.size,0,none⟩) D];exact T
 have F:=za y;clear y X T HC HR;go_wp2_with fail
 refine (R.o w1 v2 w2 aq D G F.o).mono ?_;rintro e O ⟨v3,rfl,f,Y,aB⟩;have Z:Below w w O:=af.trans (Y.mono (by omega));have ak:O.cell? (w.heap.size,0)=some (.int .i64 u):=by rw[Y.cell (p:=⟨w.heap.size,0,none⟩) D];exact G
 have j:=za f;obtain⟨q,c,a0,hq⟩:=tV f;clear Y G f R F af aa;subst a0;obtain⟨n,s⟩:=zA ((othQ l u).length);rw[<-s.o]at au ⊢;obtain⟨P,HP⟩:=zA (posQ (othQ l u) u);have ad:∀(t:Value) (J:World),(∀hf:py l u lim=false,J.ownsRow w 187 2 t (setQ l u lim).length (wY (setQ l u lim)))->py l u lim=false->Below w w J->iM l u lim w (.returned (.tuple #[t,()])) J:=fun t J a b c=>
  ⟨fun h=>by rw[b]at h;exact zY h (by simp),fun hf=>⟨t,rfl,a hf⟩,c⟩
 have ai:=za ad;clear ad;by_cases r:lim = -1
 .subst r;have HF:Hid (py l u (-1)=false):=by show _=_;unfold py;simp
  have HS:Hid (setQ l u (-1)=othQ l u):=by show _=_;unfold setQ;rw[ze rfl]
  go_wp2;go_ret2;refine ai.out _ _ (fun _=>?_) HF.o Z;rw[HS.o,<-s.o];have U:=j.o;rw[<-s.o]at U;exact Jg U (nU D)
 .have b1:(lim==-1)=false:=by rw[xr];exact r
  have N:=za r;clear r;by_cases E:n=20
  .have HF:Hid (py l u lim=true):=(by show _=_;unfold py;rw[<-s.o];simp[E,N.o]);subst E;go_wp2;go_ret2;exact⟨fun _=>rfl,fun h=>by rw[HF.o]at h;exact zY h (by simp),Z⟩
  .have HF:Hid (py l u lim=false):=(by show _=_;unfold py;rw[<-s.o];simp[E]);have b2:((n:Int)==20)=false:=(by rw[xr];omega);have HS:Hid (setQ l u lim=(othQ l u).take P++[(u,lim)]++(othQ l u).drop P):=(by show _=_;unfold setQ;rw[zb N.o,HP.o]);have a1:=za (Ya (wh.of_owns j.o));have aj:Hid (∀(W:World),Below O O W->Calls prog 132 #[(q,n,c),P,.slice (some ⟨W.heap.size,0,none⟩) 1 1] (W.alloc (.cells #[u,lim] 187)) (no w1 (setQ l u lim) (W.alloc (.cells #[u,lim] 187)))):=fun W L=>(by have U:=tB j.o L;have:=Mf w1 P (q,n,c) (othQ l u) u lim W (W.alloc (.cells #[u,lim] 187)) (by have:=L.size;simp;omega) (by rw[<-s.o];omega) (by rw[HP.o];exact am.o) (by rw[<-s.o];have:=U.alloc (.cells #[u,lim] 187);rw[<-s.o]at this;exact this) (zT W _) (fun g hg=>by have:=(U.lt g (by rw[<-s.o]at *;exact hg)).2;omega);rw[<-HS.o]at this;exact this);have aE:Hid (∀g,q=some g->True):=fun _ _=>trivial;go_wp2;go_loopw [10] (fun i wr=>∃k:Nat,k<=n/\i=.int .i64 k/\Hid (P=k+posQ ((othQ l u).drop k) u)/\Below O O wr) (fun i _=>n-(intOf i).toNat);case atStart=>exact⟨0,by omega,rfl,by show _=_;rw[HP.o,wT,yO],zB⟩
   case round=>
    obtain⟨k,hk,rfl,HO,HB⟩:=hrel;have aI:wr.cell? (w.heap.size,0)=some (.int .i64 u):=(by rw[HB.cell (p:=⟨w.heap.size,0,none⟩) (by show w.heap.size<_;omega)];exact ak);have Q:∀W t J,P=k->Below O O W->no w1 (setQ l u lim) (W.alloc (.cells #[u,lim] 187)) (.returned t) J->iM l u lim w (.returned (.tuple #[t,()])) J:=fun W t J _ L hr=>(by obtain⟨aK,hv,U,hb,_⟩:=hr;cases hv;exact ai.out _ _ (fun _=>Jg U (nU D)) HF.o ((Z.trans (L.mono (by omega))).trans ((((x9 _ W).alloc zL _).mono (by have:=L.size;omega)).trans (hb.mono (by omega)))));have S:=za Q;clear Q;by_cases ar:k<n
    .have al:k<(othQ l u).length:=(by rw[<-s.o];exact ar);have R:=PO (othQ l u) u k al;obtain⟨a',c',an,ah⟩:=a1.o;obtain⟨g,o,rfl,hg,hc⟩:=ah (by rw[<-s.o];omega);rw[<-s.o]at an;cases an;obtain⟨x,Hx⟩:=zA ((othQ l u)[k].1);have c0:wr.cell? (g,o+k*2)=some (.int .i64 x):=(by rw[HB.cell (p:=⟨g,o+k*2,none⟩) hg,(hc k al).1,Hx.o]);rw[<-Hx.o]at R;clear hc ah;by_cases K:x<u
     .have aw:Hid (P=k+1+posQ ((othQ l u).drop (k+1)) u):=(by show _=_;rw[HO.o,R,ze K];omega);have d1:decide (x<u)=true:=ya K;clear R;go_wp2
      go_quiet (fail)
      go_wp2;go_roundw;case rel=>exact⟨k+1,by omega,by go_num,aw,below_drewN HB _⟩
      case measure=>simp[intOf];omega
     .have A:Hid (P=k):=(by show _=_;rw[HO.o,R,zb K];rfl);have d1:decide (x<u)=false:=zz K;clear R;go_wp2
      go_quiet (fail)
      go_wp2_with fail
      have m:=aj.o;rw[A.o]at m;refine (m _ (below_drewN HB _)).mono ?_;rintro e w4 ⟨v4,rfl,d,I,C⟩;have H:=S.out _ v4 w4 A.o (below_drewN HB _) ⟨v4,rfl,d,I,C⟩;have V:=za H;clear d I C H m;go_wp2;go_ret2;exact V.o
    .have ap:k=n:=(by omega);subst ap;have A:Hid (P=k):=(by show _=_;rw[HO.o,vN (by rw[<-s.o];omega)];rfl);have d1:decide (k<k)=false:=zz (by omega);have d2:decide ((k:Int)<(k:Int))=false:=zz (by omega);obtain⟨z,hz⟩:∃z:Nat,z=0:=⟨0,rfl⟩
     .go_wp2
      go_quiet (fail)
      go_wp2_with fail
      have m:=aj.o;rw[A.o]at m;refine (m _ (below_drewN HB _)).mono ?_;rintro e w4 ⟨v4,rfl,d,I,C⟩;have H:=S.out _ v4 w4 A.o (below_drewN HB _) ⟨v4,rfl,d,I,C⟩;have V:=za H;clear d I C H m;go_wp2;go_ret2;exact V.o
def mB (l:List (Int×Int)):List Int:=l.flatMap fun x=>[x.1,x.2%256,x.2 / 256]
theorem W3 (l):(mB l).length=l.length*3:=by
 induction l with
 | nil=>rfl
 | cons x l a=>simp only[mB,xo,zm,yx,xS]at *;omega
theorem L5 (a b):mB (a++b)=mB a++mB b:=by simp[mB]
def sA (n:Int) (l:List (Int×Int)):List Int:=n::(mB l++List.replicate (63-l.length*3) 0)
theorem VJ (n) (l) (h:l.length<=20):(sA n l).length=64:=by have:=W3 l;simp[sA];omega
theorem PS (n) (l) (x) (h:l.length<20):
 (((byts (sA n l)).setIfInBounds (l.length*3+1) (.int .u8 x.1)).setIfInBounds (l.length*3+2) (.int .u8 (x.2%256))).setIfInBounds (l.length*3+3) (.int .u8 (x.2 / 256))=byts (sA n (l++[x])):=by
 have a:=W3 l;unfold byts sA;rw[L5,zm,show 63-l.length*3=(60-l.length*3)+1+1+1 by omega,ug,ug,ug,show 63-(l.length+[x].length)*3=60-l.length*3 by simp;omega];simp only[zK,yy,yF,yf];rw[vS _ _ (by simp;omega)];rw[show l.length*3-(List.map (fun n=>Value.int IntKind.u8 n) (mB l)).length=0 by simp;omega];rw[vS _ _ (by simp;omega)];rw[show l.length*3+1-(List.map (fun n=>Value.int IntKind.u8 n) (mB l)).length=1 by simp;omega];rw[vS _ _ (by simp;omega)];rw[show l.length*3+2-(List.map (fun n=>Value.int IntKind.u8 n) (mB l)).length=2 by simp;omega];simp[mB]
theorem make64 (W):(Instr.makeSlice 56 (.int .i64 64) (.int .i64 64)).run prog W=.ok (.slice (some ⟨W.heap.size,0,none⟩) 64 64) (W.alloc (.cells (byts (sA 0 [])) 5)):=by kernel_rfl
theorem M6 (n):(byts (sA 0 [])).setIfInBounds 0 (.int .u8 n)=byts (sA n []):=rfl
def Ks (l:List (Int×Int)) (w:World) (e:Ending) (w':World):Prop:=
 ∃g,e=.returned (.tuple #[.slice (some ⟨g,0,none⟩) 64 64,()])/\w.heap.size<=g/\w'.heap[g]?=some (.cells (byts (sA l.length l)) 5)/\Below w w w'
theorem ZY {l:List (Int×Int)} (h:rd l=0):l.length<=20/\okQ l=true:=by
 unfold rd at h;split at h
 .cases h
 .split at h
  .exact⟨by omega,by assumption⟩
  .cases h
theorem PT (v) (l) (w) (h:wh w v 2 l.length (wY l)) (d:l.length<=1000000) (c) (f:Hid (rd l=c)) (g:(c != 0)=true):
 Calls prog 146 #[v] w fun e w'=>e=.returned (.tuple #[.slice none 0 0,.int .i64 c])/\Below w w w':=by
 have a:=za (K1 v l w h d);rw[f.out]at a;clear h;go_enter func146,ntmps146;go_wp2_with fail
 refine a.o.mono ?_;rintro e w' ⟨rfl,b⟩;go_wp2;go_ret2;exact⟨rfl,b⟩
theorem JS (v) (l) (w) (h:wh w v 2 l.length (wY l)) (hr:rd l=0):
 Calls prog 146 #[v] w (Ks l w):=by
 obtain⟨D,F⟩:=ZY hr;have O:=K1 v l w h (by omega);rw[hr]at O;have R:=za O;have M:=za F;obtain⟨a,c,hv,HC⟩:=Ya h;obtain⟨n,E⟩:=zA l.length;rw[<-E.o]at hv D;have J:=za HC;clear HC h F hr O;subst hv;unfold Ks;rw[<-E.o];obtain⟨u,S⟩:=zA (byts (sA 0 []));have P:∀W,(Instr.makeSlice 56 (.int .i64 64) (.int .i64 64)).run prog W=.ok (.slice (some ⟨W.heap.size,0,none⟩) 64 64) (W.alloc (.cells u 5)):=fun W=>by rw[S.o];exact make64 W
 go_enter func146,ntmps146
 go_wp2_with fail
 refine R.o.mono ?_;rintro e d ⟨rfl,C⟩;have b:=C.size;obtain⟨B,HB⟩:=zA d.heap.size;have z:Hid ((d.alloc (.cells u 5)).heap[B]?=some (.cells u 5)):=by show _=_;rw[HB.o];exact zH
 have K:Below w w (d.alloc (.cells u 5)):=C.alloc b _;have G:(d.alloc (.cells u 5)).cell? (B,0)=some (.int .u8 0):=by rw[zC z.out,S.o];rfl
 have f0:(d.alloc (.cells u 5)).frozen? (B,0)=false:=zF z.out;rw[HB.o]at G f0;have N:n%256=(n:Int):=by omega
 go_wp2_with fail
 have T:Hid ((d.alloc (Obj.cells (u.setIfInBounds 0 (Value.int IntKind.u8 n)) 5)).heap[d.heap.size]?=some (.cells (byts (sA n (l.take 0))) 5)):=by show _=_;rw[zT,S.o,M6];rfl
 have Q:Below w w (d.alloc (Obj.cells (u.setIfInBounds 0 (Value.int IntKind.u8 n)) 5)):=C.alloc b _;clear P z K G f0 N;go_loopw [21] (fun i wr=>∃k:Nat,k<=n/\i=.int .i64 k/\Below w w wr/\Hid (wr.heap[d.heap.size]?=some (.cells (byts (sA n (l.take k))) 5))) (fun i _=>n-(intOf i).toNat);case atStart=>exact⟨0,ye _,rfl,Q,T⟩
 case round=>
  obtain⟨k,hk,rfl,m,r⟩:=hrel;by_cases I:k<n
  .have f:k<l.length:=(by rw[<-E.o];exact I);obtain⟨g,o,rfl,Z,U⟩:=J.o (by omega);obtain⟨x,L⟩:=zA (l[k].1);obtain⟨y,V⟩:=zA (l[k].2);have c0:wr.cell? (g,o+k*2)=some (.int .i64 x):=(by rw[m.cell (p:=⟨g,o+k*2,none⟩) Z,(U k f).1,L.o]);have c1:wr.cell? (g,o+k*2+1)=some (.int .i64 y):=(by rw[m.cell (p:=⟨g,o+k*2+1,none⟩) Z,(U k f).2,V.o]);have ho:=(lZ l k).1 (iI M.o k f);rw[jL l k f,<-L.o,<-V.o]at ho;obtain⟨G,x1,y0,y1,_⟩:=ho;have t:(l.take k).length=k:=(by rw[zj,<-E.o];omega);have X:Hid (l.take (k+1)=l.take k++[(x,y)]):=(by show _=_;rw[<-zR f,L.o,V.o]);have A:(byts (sA n (l.take k))).size=64:=(by have:=VJ n (l.take k) (by omega);simpa[byts]using this);have hB:=xR r.o;have q:∀j,j<64->∃x,wr.cell? ⟨d.heap.size,j,none⟩=some x:=fun j hj=>(by rw[zC r.o];exact⟨_,xL (by rw[A];exact hj)⟩);obtain⟨z1,ai⟩:=q (3*k+1) (by omega);obtain⟨z2,aj⟩:=q (3*k+2) (by omega);obtain⟨z3,al⟩:=q (3*k+3) (by omega);have f1:wr.frozen? (d.heap.size,3*k+1)=false:=zF r.o;have f2:wr.frozen? (d.heap.size,3*k+2)=false:=zF r.o;have f3:wr.frozen? (d.heap.size,3*k+3)=false:=zF r.o;have ak:=za A;have s:=za t;clear q U A t;go_wp2
   go_region
   all_goals
    go_wp2;go_roundw;case rel=>
     refine⟨k+1,by omega,by go_num,?_,?_⟩
     .exact ((((m.setCell b _).setCell b _).setCell b _).alloc (((m.setCell b _).setCell b _).setCell b _).size _).drew
     .have h1:=tA (yb _ _ (3*k+3) _ _ (.int .u8 (y / 256)) (yb _ _ (3*k+2) _ _ (.int .u8 (y%256)) (yb _ _ (3*k+1) _ _ (.int .u8 x) r.o))) (Obj.cells #[Value.int IntKind.i64 x,Value.int IntKind.i64 y] 187);have Y:=PS n (l.take k) (x,y) (by rw[s.o];omega);rw[s.o,show k*3=3*k by omega,<-X.o]at Y;show _=_;rw[<-Y];exact h1
    case measure=>simp[intOf];omega
  .have H:k=n:=(by omega);have HF:Hid (l.take k=l):=(by show _=_;rw[H,E.o];exact xJ);have H4:Hid (wr.heap[d.heap.size]?=some (.cells (byts (sA n l)) 5)):=(by have:=r.o;rw[HF.o]at this;exact this);clear r HF;go_wp2;go_ret2;exact⟨_,rfl,b,H4.o,m⟩
end Go.Proofs.YtmanoiagchpelaaGreatDoor
namespace Go.Proofs.YtmanoiagchpelaaGreatDoor
open Go.Proofs.Tryz
variable {P:List Int} {l:List (Int×Int)} {lim u:Int}
def Srt (l:List (Int×Int)):Prop:=(∀x∈l,0<=x.1/\x.1<=255/\0<=x.2/\x.2<=256)/\l.Pairwise (fun a b=>a.1<b.1)
theorem iW (l):okQ l=true↔Srt l:=by
 constructor
 .intro h;have c:=fun i a=>(lZ l i).1 (iI h i a);constructor
  .intro x m;obtain⟨i,a,rfl⟩:=uE.1 m;have:=c i a;rw[jL l i a]at this;omega
  .rw[xZ];intro i j a d f
   induction j with
   | zero=>omega
   | succ j g=>
    have b:=c (j+1) d;rw[jL l (j+1) d,ss,jL l j (by omega)]at b;by_cases e:i=j
    .subst e;omega
    .have:=g (by omega) (by omega);omega
 .rintro ⟨k,b⟩;refine Yl fun i a=>(lZ l i).2 ?_;rw[jL l i a];have:=k _ (zx a);refine⟨by omega,by omega,by omega,by omega,?_⟩;by_cases e:i=0
  .exact zr e
  .right;rw[jL l (i-1) (by omega)];exact (xZ.1 b) (i-1) i (by omega) a (by omega)
theorem Ua {x:Int×Int} (h:x∈othQ l u):x∈l/\x.1≠u:=by unfold othQ at h;rw[vu]at h;exact⟨h.1,by simpa using h.2⟩
theorem Rx (l:List (Int×Int)) (u):∀x∈l.take (posQ l u),x.1<u:=by
 induction l with
 | nil=>intro x a;simp at a
 | cons y l b=>
  intro x a;unfold posQ at a;split at a
  .rw[wZ]at a;rcases yD.1 a with rfl|a
   .assumption
   .exact b x a
  .simp at a
theorem PN (l:List (Int×Int)) (u) (e:l.Pairwise (fun a b=>a.1<b.1)):∀x∈l.drop (posQ l u),u<=x.1:=by
 induction l with
 | nil=>intro x c;simp at c
 | cons y l d=>
  intro x c;rw[wP]at e;unfold posQ at c;split at c
  .rw[vd]at c;exact d e.2 x c
  .rw[wT]at c;rcases yD.1 c with rfl|c
   .omega
   .have:=e.1 x c;omega
theorem Tn (u) (h:Srt l):Srt (othQ l u):=⟨fun x a=>h.1 x (Ua a).1,h.2.filter _⟩
theorem Tm (h:Srt l) (p:0<=u) (n:u<=255) (q: -1<=lim) (o:lim<=256):Srt (setQ l u lim):=by
 unfold setQ;have f:=Tn u h;split
 .exact f
 .have c:=Rx (othQ l u) u;have e:=PN (othQ l u) u f.2;have j:∀x∈(othQ l u).drop (posQ (othQ l u) u),x.1≠u:=fun x d=>(Ua (wd d)).2;refine⟨fun x d=>?_,?_⟩
  .simp only[yo,yD,yK,qH]at d;rcases d with (d|rfl)|d
   .exact f.1 x (yY d)
   .simp only;omega
   .exact f.1 x (wd d)
  .rw[tR,tR];refine⟨⟨f.2.sublist (List.take_sublist _ _),by simp,fun a g b i=>?_⟩,f.2.sublist (List.drop_sublist _ _),fun a g b i=>?_⟩
   .simp at i;subst i;exact c a g
   .have m:=e b i;have k:=j b i;simp only[yo,yD,yK,qH]at g;rcases g with g|rfl
    .have:=c a g;omega
    .simp only;omega
theorem Tp (h:l.length<=20) (b:py l u lim=false):(setQ l u lim).length<=20:=by
 have:=XG l u;unfold setQ;split
 .omega
 .rename_i a;have:(othQ l u).length≠20:=fun e=>by unfold py at b;simp[e,a]at b
  have:=YQ (othQ l u) u;simp;omega
open Go.RowKit
def gG (bs:List Int) (w:World) (e:Ending) (w':World):Prop:=
 (mi bs/\∃v,e=.returned (.tuple #[v,()])/\vT w' v (rK bs).1/\Below w w w'/\∀b,v.ownBlock=some b->w.heap.size<=b) \/
 (¬mi bs/\e=.returned (.tuple #[.slice none 0 0,(3:Int)])/\Below w w w')
theorem JH {a b:ByteArray} (h:a.toList=b.toList):a=b:=by
 rw[ByteArray.toList_eq,ByteArray.toList_eq]at h;cases a;cases b;simp only[ByteArray.mk.injEq]at *
 exact Array.toList_inj.1 h
theorem Xy : ∀(bs),(∀x,x∈bs->0<=x/\x<=255)->∀y,y∈pO bs->(0<=y.1/\y.1<=255)/\0<=y.2/\y.2<=255
 | [],_,y,b=>by simp[pO]at b
 | [_],_,y,b=>by simp[pO]at b
 | a::n::r,h,y,b=>by
  rw[pO]at b;split at b
  .rcases yD.1 b with rfl|b
   .exact⟨h a (by simp),h n (by simp)⟩
   .exact Xy r (fun x c=>h x (by simp[c])) y b
  .simp at b
theorem RD (h:∀x,x∈l->(0<=x.1/\x.1<=255)/\0<=x.2/\x.2<=255):∀y,y∈sB l->0<=y/\y<=255:=by
 intro y a;rcases yo.1 a with a|a
 .obtain⟨x,b,a⟩:=vA.1 a;have:=h x b;simp at a;rcases a with rfl|rfl<;>omega
 .have:=xV a;omega
theorem KH (c:tY P=0):∀y,y∈sB (ofE P)->0<=y/\y<=255:=by refine RD fun x a=>?_;have b:=VH c;have:=(li P.length P rfl (gX c)).1 x (by simpa[ofE]using a);omega
theorem UK (b:tY P=0):(sB (ofE P)).length=16:=by
 have a:=VH b;have:=(li P.length P rfl (gX b)).2;simp only[sB,zm,yN,KT];have e:(ofE P).length=(ofR P).length:=by simp[ofE]
 omega
theorem IZ (w) (g n) (ns) (t) (b:ns.length=n) (h:w.heap[g]?=some (.cells (byts ns) t)):
 (convert 56 9 (.slice (some ⟨g,0,none⟩) n n)).run prog w=.ok (.string (sE ns)) w:=
 Yh w 56 9 5 g 0 n n ns b (by kernel_rfl) (by kernel_rfl) (by kernel_rfl) (fun j v a=>by rw[yO,zC h];simpa[byts]using a)
theorem LG (v) (bs) (w) (h:vQ w v bs) (n:bs.length≠16) (r:bs.length<=1000000):
 Calls prog 175 #[v] w (gG bs w):=by
 have _:=r;obtain⟨N,a⟩:=zA bs.length;obtain⟨q,c,j⟩:∃p c,v=.slice p N c:=by
  rw[a.o];obtain⟨_,⟨k,d,e,rfl⟩|⟨g,o,b,rfl,m⟩⟩:=h
  .exact⟨d,e,by rw[k]⟩
  .exact⟨_,b,rfl⟩
 subst j;rw[<-a.o]at r n;have f:((N:Int) != 16)=true:=by rw[rQ];omega
 have i:Hid (¬mi bs):=fun l=>n (a.o.trans l.1);clear h n;go_enter func175,ntmps175;go_wp2;go_ret2;exact zu ⟨i.o,rfl,zB⟩
theorem MQ (
 bs) (g off cap) (w) (hc:∀j (hj),w.cell? ⟨g,off+j,none⟩=some (.int .u8 bs[j])) (hn:bs.length=16) (hx:∀x,x∈bs->0<=x/\x<=255):
 Calls prog 175 #[.slice (some ⟨g,off,none⟩) 16 cap] w (gG bs w):=by
 have HC:=za hc;have M:=za hn;have HX:=za hx;have Z:=za (Xy bs hx);have ao:=0;clear hc hn hx ao;obtain⟨i0,hi,V,ac,aa⟩:=xy Y6;have HI:=za hi;have a5:=za V;have a6:=za ac;have aq:=za aa;clear hi V ac aa;go_enter func175,ntmps175;go_wp2;go_loopw [4,5] (fun o i wr=>∃(k m:Nat) (d:List (Int×Int)),m<=16/\i=.int .i64 m/\Hid (m=2*k/\d.length=k)/\Hid (d++pO (bs.drop (2*k))=pO bs)/\Hid (wr.ownsRow w 250 2 o d.length (wY d))/\Below w w wr) (fun _ i _=>16-(intOf i).toNat);case atStart=>exact⟨0,0,[],by omega,rfl,⟨rfl,rfl⟩,rfl,xd _ _ _ _,zB⟩
 case round=>
  obtain⟨k,m,d,hk,rfl,L,HR,T,y⟩:=hrel;by_cases aL:m<16
  .have a8:m<=14:=(by have:=L.o.1;omega);have h1:2*k<bs.length:=(by rw[M.o];have:=L.o.1;omega);have Y:2*k+1<bs.length:=(by rw[M.o];have:=L.o.1;omega);have e1:=HC.o (2*k) h1;have e2:=HC.o (2*k+1) Y;have c1:=(y.cell (zG e1)).trans e1;have c2:=(y.cell (zG e2)).trans e2;have r1:=HX.o _ (zx h1);have r2:=HX.o _ (zx Y);have hd:=ND bs k Y;obtain⟨a,ha⟩:=zA (bs[2*k]);obtain⟨n,hn⟩:=zA (bs[2*k+1]);rw[<-ha.out]at c1 r1 hd;rw[<-hn.out]at c2 r2 hd;rw[<-L.o.1]at c1 c2;have HD:=za hd;clear e1 e2 hd;obtain⟨aU,aH⟩:=r1;obtain⟨R,aI⟩:=r2;have O:=(T.o.alloc (.cells #[a,n] 250)).lt;have U:=za O;clear O;by_cases R:0<n
   .have s1:=zW (m+1) (by omega);have s2:0<=(m:Int)+1:=(by omega);have s3:((m:Int)+1).toNat=m+1:=(by omega);have s4:(m:Int)+1<16:=(by omega);have s5:(m:Int)<16:=(by omega);have s6:IntKind.i64.wrap a=a:=zQ _ (by omega);have s7:IntKind.i64.wrap n=n:=zQ _ (by omega);have hL:d.length<=7:=(by have:=L.o;omega);have ag:Value.ownBlock u4≠some g:=fun hq=>(by have h1:=(U.o g hq).1;have Y:=zG (HC.o 0 (by rw[M.o];omega));simp at Y;omega);have AG:=za ag;have ak:=zG c1;simp only at ak;have aV:Hid (Below w w wr.drew):=⟨y.os,y.tape,y.output,y.size,y.block⟩;have ab:Hid (∀q,Value.ownBlock u4=some q->w.heap.size<=q):=fun q hq=>(U.o q hq).1;have aJ:=y.size;clear ag;go_wp2_with fail
    go_region_held3 (fun w'=>w'.cell? (g,off+m)=some (.int .u8 a)/\w'.cell? (g,off+(m+1))=some (.int .u8 n))
     (first
      | go_keep
      | (
       go_split_ands
       refine⟨?_,?_⟩
       ·(rw[s.cell_far _ (by simp;omega) (yA AG.out)];assumption)
       ·(rw[s.cell_far _ (by simp;omega) (yA AG.out)];assumption)))
     ((
      refine tF _ (by rfl) _ _ _ (by rfl) w.heap.size 250 i0 _ 2 16 iu HI.o a5.o a6.o aq.o rfl (by omega) u4 d.length (wY d) (by rfl) ((T.o.alloc _).drew)
       ⟨wr.heap.size,0,none⟩ 1 1 [.int .i64 a,.int .i64 n] (by rfl) (by rfl) (xE (cs:=#[.int .i64 a,.int .i64 n]) (t:=250) (fr:=(0,0)) (zT wr _)) (by simp[Value.oneCell'])
       (by omega) (by unfold maxLen;omega) (by omega) (by simp;omega) (wr.heap.size+1) (by simp) ?_;intro gg W F N s a0 X))
    have au:Hid (F.ownsRow w 250 2 (gg,0,(d.length+1),W) (d++[(a,n)]).length (wY (d++[(a,n)]))):=(by rw[oZ,zm];exact N);have az:=xB (lG (y.alloc y.size _) 1) s (by simp[World.drewN];omega) ab.o;have am:Hid ((d++[(a,n)])++pO (bs.drop (2*(k+1)))=pO bs):=(by rw[<-HR.o,HD.o,ze R];simp[Hid]);clear N s a0 X s1 s3 s6 s7;go_wp2;go_roundw;case rel=>exact⟨k+1,m+2,d++[(a,n)],by omega,by go_num,by have:=L.o;exact⟨by omega,by simp;omega⟩,am,au,az⟩
    case measure=>simp[intOf];omega
   .have l:Hid (d=pO bs):=(by rw[<-HR.o,HD.o,zb R];simp[Hid]);have a7:n=0:=(by omega);subst a7;have hL:d.length<=8:=(by have:=L.o;omega);obtain⟨q2,c2,ho,_⟩:=tV T.o;subst ho;go_wp2_with fail
    refine (JR _ d _ (wh.of_owns T.o) (by omega) (fun x hx=>by rw[l.o]at hx;have:=Z.o x hx;omega)).mono ?_;rintro e w3 (⟨E,v,rfl,f,D⟩|⟨E,rfl,D⟩)
    .have J:Hid ((rK bs).2=0):=(by rw[rK,<-l.o];exact E);have z:=za (Jf J.o);have I:Hid (vT w3 v (rK bs).1):=(by have:=wh.of_owns f;rw[l.o]at this;exact this);have P:Hid (∀b,v.ownBlock=some b->w.heap.size<=b):=fun b hb=>zt y.size (f.lt b hb).1;clear E f;have B:=zf y D;go_wp2_with fail
     refine (KG _ (rK bs).1 _ I.o z.o).mono ?_;rintro e F ⟨g4,rfl,a1,H,K⟩;have C:=zf B K;have u:=IZ F g4 16 _ _ (UK z.o) H;have A:(convert 56 9 (.slice (some (g,off)) 16 cap)).run prog F=.ok (.string (sE bs)) F:=
      Yh F 56 9 5 g off cap 16 bs M.o (by kernel_rfl) (by kernel_rfl) (by kernel_rfl) (fun j x hx=>by
       have hj:j<bs.length:=by
        rcases sk j bs.length with h|h
        .exact h
        .rw[yj (by simpa using h)]at hx;cases hx
       have e:(bs.map (Value.int .u8))[j]?=some (.int .u8 bs[j]):=(by simp[hj]);rw[e]at hx;cases hx;have:=HC.o j hj;exact (C.cell (zG this)).trans this)
     have Q:Hid (vT F v (rK bs).1):=wh.below I.o K;clear H;by_cases p:sB (ofE (rK bs).1)=bs
     .have G:Hid (mi bs):=⟨M.o,J.o,p⟩;rw[p]at u;clear p;generalize sE bs=S at u A;go_wp2;go_ret2;exact zr ⟨G.o,_,rfl,Q.o,C,P.o⟩
     .have G:Hid (¬mi bs):=fun h=>p h.2.2;have r:sE (sB (ofE (rK bs).1))≠sE bs:=fun h=>p (Id (KH z.o) HX.o h);clear p;generalize sE bs=S at u A r;generalize sE (sB (ofE (rK bs).1))=S' at u A r;have ae:(S'.toList==S.toList)=false:=(by rw[xr];exact fun h=>r (JH h));clear r;go_wp2;go_ret2;exact zu ⟨G.o,rfl,C⟩
    .have G:Hid (¬mi bs):=fun h=>E (by rw[l.o];exact h.2.1);generalize (ptsR d []).2=c at E;have av:(c != 0)=true:=(by rw[rQ];exact E);have B:=zf y D;clear E;go_wp2;go_ret2;exact zu ⟨G.o,rfl,B⟩
  .have l:Hid (d=pO bs):=(by rw[<-HR.o,yP (by rw[M.o];have:=L.o;omega)];simp[Hid,pO]);have hL:d.length<=8:=(by have:=L.o;omega);obtain⟨q2,c2,ho,_⟩:=tV T.o;subst ho;go_wp2_with fail
   refine (JR _ d _ (wh.of_owns T.o) (by omega) (fun x hx=>by rw[l.o]at hx;have:=Z.o x hx;omega)).mono ?_;rintro e w3 (⟨E,v,rfl,f,D⟩|⟨E,rfl,D⟩)
   .have J:Hid ((rK bs).2=0):=(by rw[rK,<-l.o];exact E);have z:=za (Jf J.o);have I:Hid (vT w3 v (rK bs).1):=(by have:=wh.of_owns f;rw[l.o]at this;exact this);have P:Hid (∀b,v.ownBlock=some b->w.heap.size<=b):=fun b hb=>zt y.size (f.lt b hb).1;clear E f;have B:=zf y D;go_wp2_with fail
    refine (KG _ (rK bs).1 _ I.o z.o).mono ?_;rintro e F ⟨g4,rfl,a1,H,K⟩;have C:=zf B K;have u:=IZ F g4 16 _ _ (UK z.o) H;have A:(convert 56 9 (.slice (some (g,off)) 16 cap)).run prog F=.ok (.string (sE bs)) F:=
     Yh F 56 9 5 g off cap 16 bs M.o (by kernel_rfl) (by kernel_rfl) (by kernel_rfl) (fun j x hx=>by
      have hj:j<bs.length:=by
       rcases sk j bs.length with h|h
       .exact h
       .rw[yj (by simpa using h)]at hx;cases hx
      have e:(bs.map (Value.int .u8))[j]?=some (.int .u8 bs[j]):=(by simp[hj]);rw[e]at hx;cases hx;have:=HC.o j hj;exact (C.cell (zG this)).trans this)
    have Q:Hid (vT F v (rK bs).1):=wh.below I.o K;clear H;by_cases p:sB (ofE (rK bs).1)=bs
    .have G:Hid (mi bs):=⟨M.o,J.o,p⟩;rw[p]at u;clear p;generalize sE bs=S at u A;go_wp2;go_ret2;exact zr ⟨G.o,_,rfl,Q.o,C,P.o⟩
    .have G:Hid (¬mi bs):=fun h=>p h.2.2;have r:sE (sB (ofE (rK bs).1))≠sE bs:=fun h=>p (Id (KH z.o) HX.o h);clear p;generalize sE bs=S at u A r;generalize sE (sB (ofE (rK bs).1))=S' at u A r;have ae:(S'.toList==S.toList)=false:=(by rw[xr];exact fun h=>r (JH h));clear r;go_wp2;go_ret2;exact zu ⟨G.o,rfl,C⟩
   .have G:Hid (¬mi bs):=fun h=>E (by rw[l.o];exact h.2.1);generalize (ptsR d []).2=c at E;have av:(c != 0)=true:=(by rw[rQ];exact E);have B:=zf y D;clear E;go_wp2;go_ret2;exact zu ⟨G.o,rfl,B⟩
theorem Ns (v) (bs) (w) (h:vQ w v bs) (i:bs.length<=1000000) (k:∀x,x∈bs->0<=x/\x<=255):
 Calls prog 175 #[v] w (gG bs w):=by
 by_cases c:bs.length=16
 .obtain⟨_,⟨f,_⟩|⟨g,a,b,rfl,e⟩⟩:=h
  .omega
  .rw[c];exact MQ bs g a b w (fun j d=>e j _ (qg bs j d)) c k
 .exact LG v bs w h c i
