import Derived.Test.YtpcedcnjofbgjaaGreatDoorKA2
import Derived.Test.YtpcedcnjofbgjaaGreatDoorKA5
import Derived.Lib.BufferWrite
import Derived.Deep.RegionHeldLaw
import Derived.Deep.RegionHeld3
import Derived.Laws.StructEq
import Derived.Lib.AppendZerosOnto
import Derived.Lib.AppendZeros
import Derived.Deep.DeepAppendWide
import Derived.Deep.AppendLies
set_option maxHeartbeats 0
set_option linter.all false
set_option maxRecDepth 100000
namespace Go.Proofs.YtpcedcnjofbgjaaGreatDoor
open Go.Proofs.Tryz Go.RowKit
variable {B g n:Nat} {D:List Int} {W w w':World} {fr:Nat×Nat} {k m s u up:Int} {t:TypeId} {v:Value}
abbrev L1:=@Lib.run_append_grow_zeros
abbrev Mv:=@Lib.wpList_append_run
abbrev sL:=@NoPanic.normal
abbrev te:=@wp_region_noPanic
abbrev ut:=@step_append_lies
abbrev xF:=@World.news_of_block
theorem R5: (prog.info? 5).map (λi=>(i.zero,i.size,i.bytes))=some (some (.int .u8 0),1,1):=by kernel_rfl
theorem u8sT: prog.underlying 38=some (.slice 5):=by kernel_rfl
theorem ky: (prog.info? 5).map (·.size)=some 1:=by kernel_rfl
def Lb (D:List Int) (w:World) (v:Value) (w':World):Prop:=
 ∃g cap cur,v=.slice (some ⟨g,0,none⟩) D.length cap/\(w.heap.size<=g/\D.length<=cap)/\w'.heap[g]?=some (.cells cur 5)/\cur.toList.take D.length=u8s D/\Below w w w'
theorem rH {cap:Nat} {cur:Array Value} (c:D.length=n) (h:w.heap[g]?=some (.cells cur t fr)) (d:cur.toList.take n=u8s D):
 uM w (g,0,n,cap) D:=by
 refine⟨by rw[wd];omega,zw ⟨g,0,cap,by rw[c],λj x a=>?_⟩⟩;rw[yF,xQ _ _ j _ t fr h];have b:=(zG.1 a).1;rw[wd]at b;rw[<-d,zI,ze (by omega)]at a;simpa using a
theorem Lb.at (h:Lb D w v w'):uM w' v D:=by obtain⟨g,d,a,rfl,_,c,b,_⟩:=h;exact rH rfl c b
theorem Lb.below (h:Lb D w v w'):Below w w w':=by obtain⟨g,b,a,rfl,_,e,d,c⟩:=h;exact c
def kM (D:List Int) (w:World) (e:Ending) (w':World):Prop:=∃v,e=.returned v/\Lb D w v w'
theorem ZH (v:Value) (D:List Int) (w:World) (h:uM w v D) (T:0<D.length) (U:D.length<=1000000):
 Calls prog 104 #[v] w (kM D w):=by
 obtain⟨M,⟨S,_⟩|⟨g,o,c,rfl,E⟩⟩:=h
 .omega
 obtain⟨L,C,e,f,i⟩:=yX R5;have P:=za C;have z:=za e;have A:=za f;have t:=za i;clear C e f i;have K:=za E;obtain⟨n,m⟩:=zA D.length;rw[<-m.o]at T U |-;clear E M;have I:∀(w) (a) (n c p r),(binOp .eql 38 (.slice a n c) (.slice none p r)).run prog w=.ok (.bool a.isNone) w:=λw a n c p r=>Nw w _ _ a n c p r u8sT;go_enter func104,ntmps104;go_wp2_with (at_builtin;refine yw _ rfl _ _ 38 rfl w.heap.size 5 L (.int .u8 0) 1 1 u8sT P.o z.o A.o t.o rfl (by decide) _ _ _ rfl (ub w #[] 0 zL zZ rfl) ⟨g,o,none⟩ n c (u8s D) rfl ?qc1 ?qc2 ?qc3 ?qc4 ?qc5 ?qc6 ?_)
 case qc1=>rw[wd,<-m.o];omega
 case qc2=>
  intro j u O;have l:(⟨g,o,none⟩:Addr).add j=⟨g,o+j,none⟩:=by unfold Addr.add;split<;>simp_all
  rw[l];have:=K.o j u O;rw[xR _ _ _ (zy this)];exact this
 case qc3=>exact gZ D
 case qc4=>unfold maxLen;omega
 case qc5=>omega
 case qc6=>simp
 intro F Q d b B;go_wp2;go_ret;refine⟨F,rfl,?_⟩;obtain⟨_,⟨_,R⟩|⟨J,x,y,rfl,s,N,q,_,_,G⟩⟩:=d
 .omega
 .refine⟨J,x,y,by rw[m.o],⟨s,by rw[<-m.o];exact q⟩,N,by rw[<-m.o];simpa using G,?_⟩;exact ((xW _ w).alloc zL _).grown b (by simp) (by intro k H;simp[Value.ownBlock]at H;omega)
section
variable {w : World} {gd gs gn : Nat} {wt : Value} {E : List (Nat×Value)} {st : Dk} {L k : Nat} {F : Nat->Prop}
theorem Lies.c0 (h:Lies w gd gs gn wt E st L k F):w.cell? (gd,0)=some (.slice (some ⟨gs,0,none⟩) L L):=zC h.hd
theorem Lies.c1 (h:Lies w gd gs gn wt E st L k F):w.cell? (gd,1)=some (.slice (some ⟨gn,0,none⟩) L L):=zC h.hd
theorem Lies.c2 (h:Lies w gd gs gn wt E st L k F):w.cell? (gd,2)=some wt:=zC h.hd
theorem Lies.c3 (h:Lies w gd gs gn wt E st L k F):w.cell? (gd,3)=some (.int .i64 st.fu):=zC h.hd
theorem Lies.z (h:Lies w gd gs gn wt E st L k F) (i):w.frozen? ⟨gd,i,none⟩=false:=by simp[World.frozen?,h.hd]
theorem ST (h:Lies w gd gs gn wt E st L k F):Calls prog 77 #[(gd,())] w λe w'=>e=.returned k/\w=w':=by
 have f:=h.c1;have a:=h.hL;have c:=h.k1;have b:=za a;have d:L<=1000000:=by omega
 clear h a;go_enter func77,ntmps77;go_wp2;go_ret;have:=b.o;exact⟨ret_i (by omega),rfl⟩
def decF (f:Int):Int:=if 0<f then f-1 else f
theorem MS (h:Lies w gd gs gn wt E st L k F) (b:st.fu=0):Calls prog 125 #[(gd,())] w λe w'=>e=.returned (.bool false)/\w=w':=by have a:=h.c3;rw[b]at a;clear h b;go_enter func125,ntmps125;go_wp2;go_ret;exact⟨rfl,rfl⟩
theorem pB (h:Lies w gd gs gn wt E st L k F) (m:st.fu≠0):Calls prog 125 #[(gd,())] w <|ρ (.bool true) λw'=>Lies w' gd gs gn wt E {st with fu:=decF st.fu} L k F/\yK F w w':=by
 have d:=h.c3;have l:=h.z 3;have g:=h.f0;have a:=h.f1;have H:=za h;obtain⟨f,b⟩:=zA st.fu;rw[<-b.o]at d m g a |-;clear h;by_cases c:0<f
 .have i:(f==0)=false:=by simpa using m
  clear m;go_enter func125,ntmps125;go_wp2;go_ret;have e:decF f=f-1:=by unfold decF;rw[ze c]
  rw[e];exact⟨rfl,H.o.setFu _ (by omega) (by omega),yK.setCell H.o.fd _⟩
 .have i:(f==0)=false:=by simpa using m
  clear m;go_enter func125,ntmps125;go_wp2;go_ret;have e:decF f=f:=by unfold decF;rw[zb (by omega)]
  rw[e];have j:({st with fu:=f})=st:=by rw[b.o]
  rw[j];exact⟨rfl,H.o,yK.refl _ _⟩
theorem Yg {l:List Int} {c:Nat} (d:l.length=64*k) (e:n<k) (h:w.heap[g]?=some (.cells (u8s l).toArray t fr)):
 uM w (.slice (some (g,n*64)) 64 c) (sec l n):=by
 refine⟨by rw[wd];omega,zw ⟨g,n*64,c,by rw[jn d e],λj x a=>?_⟩⟩;rw[xQ _ _ _ _ t fr h];have b:=(zG.1 a).1;rw[wd,jn d e]at b;unfold sec at a;rw[ZP,no,zI,ze b,yy]at a;rw[xw,pi];exact a
def fR (D:List Int) (w:World) (e:Ending) (w':World):Prop:=∃v,e=.returned (.tuple #[v,()])/\Lb D w v w'
theorem EH (h:Lies w gd gs gn wt E st L k F) (n:Nat) (t:n<k):Calls prog 76 #[(gd,()),n] w (fR (sec st.N n) w):=by
 have s:=h.c1;have a:st.N.length=64*k:=by rw[h.ln,h.hL]
 have q:=h.k1;have j:Hid (∀c,uM w (.slice (some (gn,n*64)) 64 c) (sec st.N n)):=λc=>Yg a t h.hn;have b:=za (jn a t);have H:=za h;have r:64*k<=L:=by have:=h.hL;omega
 have m:L<=64*k:=by have:=h.hL;omega
 clear h a;have p:¬k<=(n:Int):=by omega
 have f:0<=(n:Int):=by omega
 have g:(n+1)*64<=(L:Int):=by omega
 have d:¬L=n*64:=by omega
 go_enter func76,ntmps76
 go_wp2_with fail
 refine (ST H.o).mono ?_;rintro e i ⟨rfl,rfl⟩;go_wp2_with fail
 rw[show (n+1)*64-n*64=64 by omega];refine (ZH _ _ _ (j.o _) (by rw[b.o];omega) (by rw[b.o];omega)).mono ?_;rintro e i ⟨v,rfl,l⟩;go_wp2;go_ret2;exact⟨v,rfl,l⟩
end
theorem tJ {g l:Int} (h:W.heap[B]?=some (.cells #[k,m,u,g,s,l,up,v] t)):W.cell? (B,0)=some (.int .i64 k)/\W.cell? (B,1)=some (.int .i64 m)/\W.cell? (B,2)=some (.int .i64 u)/\W.cell? (B,3)=some (.int .i64 g)/\W.cell? (B,4)=some (.int .i64 s)/\W.cell? (B,5)=some (.int .i64 l)/\W.cell? (B,6)=some (.int .i64 up)/\W.cell? (B,7)=some v:=by have c:=λj=>xQ W B j _ t (0,0) h;exact⟨c 0,c 1,c 2,c 3,c 4,c 5,c 6,c 7⟩
def gN (P:List Int):Nat:=(P.filter λp=> !(p==0)).length
theorem YG (P) (p):gN (P++[p])=gN P+(if (p==0)=true then 0 else 1):=by unfold gN;rw[qh,zl];cases h:(p==0)<;>simp[h]
theorem XY (P):gN P<=P.length:=vJ _ _
theorem LP (k m u g s l up) (v) (P) (w) (h:tP w v P) (V:P.length<=1000000):
 Calls prog 149 #[.agg #[(k:Int),(m:Int),(u:Int),(g:Int),(s:Int),(l:Int),(up:Int),v]] w (κ w (gN P:Int)):=by
 obtain⟨N,n⟩:=zA P.length;obtain⟨p,t,K,O⟩:∃p t,v=.slice p N t/\Hid (∀W:World,Below w w W->0<N->∃g o,p=some ⟨g,o,none⟩/\∀j (D:j<P.length),W.cell? ⟨g,o+j,none⟩=some (.int .i64 P[j])):=by
  rw[n.o];obtain⟨_,⟨G,L,M,rfl⟩|⟨g,o,r,rfl,f⟩⟩:=h
  .exact⟨L,M,by rw[G],λ_ _ h=>by omega⟩
  .refine⟨_,r,rfl,λW H _=>⟨g,o,rfl,λj D=>?_⟩⟩;have:=f _ _ (pQ P j D);exact (H.cell (zy this)).trans this
 rw[<-n.o]at V;subst K;clear h;have z:Below w w (w.alloc (.cells #[k,m,u,g,s,l,up,(p,N,t)] 102)):=zB.alloc zL _;go_enter func149,ntmps149;go_wp2
 go_loop [3,9] (λc i=>∃k:Nat,k<=N/\i=.int .i64 k/\∃x:Nat,x<=k/\c=.int .i64 x/\Hid (x=gN (P.take k))) (λ_ i=>N-(intOf i).toNat)
 .exact⟨0,yh _,rfl,0,yh _,rfl,rfl⟩
 .obtain⟨k,Q,rfl,x,U,rfl,C⟩:=hrel;by_cases q:k<N
  .obtain⟨g,o,rfl,f⟩:=O.o _ z (by omega);have d:k<P.length:=(by rw[<-n.o];exact q);have J:=f k d;obtain⟨y,A⟩:=zA (P[k]);rw[<-A.out]at J;have E:Hid (gN (P.take (k+1))=x+(if (y==0)=true then 0 else 1)):=(by show _=_;rw[<-zU d,YG,<-C.o,<-A.out]);have R:=za f;clear f;have B:k<(N:Int):=(by omega);by_cases a:y=0
   .subst a;have b:Hid (x=gN (P.take (k+1))):=(by rw[E.o];simp[Hid]);go_wp2
    go_round
    .exact⟨k+1,by omega,by go_num,x,by omega,rfl,b⟩
    .simp[intOf];omega
   .have F:(y==0)=false:=(by simpa using a);have T:(y != 0)=true:=(by simpa using a);have b:Hid (x+1=gN (P.take (k+1))):=(by rw[E.o,F];simp[Hid]);have S:=za a;clear a;go_wp2
    go_round
    .exact⟨k+1,by omega,by go_num,x+1,by omega,by go_num,b⟩
    .simp[intOf];omega
  .have I:Hid (x=gN P):=(by have:=C.o;rw[zo (by rw[<-n.o];omega)]at this;exact this);go_wp2;go_ret;rw[I.o];exact⟨rfl,z⟩
theorem IY (k m u g s l up) (v) (w):
 Calls prog 67 #[.agg #[(k:Int),(m:Int),(u:Int),(g:Int),(s:Int),(l:Int),(up:Int),v]] w (κ w (.agg #[.int .i64 k,.int .i64 m,.int .i64 u,.int .i64 g,.int .i64 s,.int .i64 l])):=by
 go_enter func67,ntmps67
 go_wp2;refine yE (v:=.agg #[k,m,u,g,s,l]) (by simp[results,results67,go_sem]) rfl ⟨rfl,?_⟩;exact (zB.alloc zL _).alloc (by simp) _
theorem ug {g l:Int} (h:W.heap[B]?=some (.cells #[k,m,u,g,s,l,up,v] t)):W.cell? (B,0)=some (.int .i64 k)/\W.cell? (B,1)=some (.int .i64 m)/\W.cell? (B,2)=some (.int .i64 u)/\W.cell? (B,3)=some (.int .i64 g)/\W.cell? (B,4)=some (.int .i64 s)/\W.cell? (B,5)=some (.int .i64 l)/\W.cell? (B,6)=some (.int .i64 up)/\W.cell? (B,7)=some v:=by have c:=λj=>xQ W B j _ t (0,0) h;exact⟨c 0,c 1,c 2,c 3,c 4,c 5,c 6,c 7⟩
theorem iL (w) (g i n) (cur) (l) (s:w.heap[g]?=some (.cells cur 193)) (x:cur.size=n*2) (t:cur.toList.take (n*2)=qP l) (y:n=l.length) (u:i<n) (z:n<=1000000):
 ∃(G:Nat) (zs:List Value),n+1<=G/\G<=maxLen/\zs.length=(G-i)*2/\∀ty,(Builtin.append_ #[87,3] ty #[.slice (some ⟨g,0,none⟩) i n,.int .i64 (n+1-i)]).run prog w =
  .ok (.slice (some ⟨w.heap.size,0,none⟩) (n+1) G) (w.drew.alloc (.cells (qP (l.take i)++zs).toArray 193)):=by
 obtain⟨k,r,p,e,a⟩:=yX iP;have d:(qP (l.take i)).length=i*k.size:=by rw[rG,Ni,e];congr 1;omega
 have c:(Builtin.firstCells k.size i (g,0,i,n)).run prog w.drew=.ok (qP (l.take i)).toArray w.drew:=
  MQ _ _ _ _ _ _ _ d λj v o=>by have b:(⟨g,0,none⟩:Addr).add j=⟨g,0+j,none⟩:=(by unfold Addr.add;split<;>simp_all);have m:=(zG.1 o).1;rw[d,e]at m;rw[b,yF,xQ w.drew g j cur 193 (0,0) s];rw[(PK l i (by omega)).2,<-t,zI,ze (by omega),zI,ze (by omega)]at o;simpa using o
 have q:(n+1-i)=((n+1-i:Nat):Int):=by omega
 have f:prog.underlying 3=some (.int .i64):=by kernel_rfl
 refine⟨grownCap w (n+1) n 193,(Builtin.zeroCells #[(),()] (n+1-i)++Builtin.zeroCells #[(),()] (grownCap w (n+1) n 193-(n+1))).toList,MO _ _ _ _,grownCap_le_maxLen _ _ _ _ (by unfold maxLen;omega),?_,λty=>?_⟩
 .have:=MO w (n+1) n 193;rw[ye,Array.size_append,sJ,sJ];show (n+1-i)*2+(_-(n+1))*2=_;omega
 .have h:=L1 (P:=prog) w 87 3 ty 193 k _ .i64 .i64 rowT f r p (some ⟨g,0,none⟩) i n (qP (l.take i)) c (n+1-i) (by omega) (by omega) (by omega) (by omega) (by rw[a];omega) (by rw[a];exact growslice_fits_wide (by omega) (by omega));rw[show i+(n+1-i)=n+1 by omega]at h;rw[q,h]
  congr 3
  simp[Array.append_assoc,Value.cells]
theorem j2 (B g i n:Nat) (cur:Array Value) (l:List (Int×Int)) (x y:Int) (h:Nat) (w:World) (au:B<=w.heap.size) (HN:Hid (n=l.length)) (hl:n<=1000000) (aw:i<n) (ay:g<w.heap.size) (a0:h<w.heap.size)
 (HG:Hid (w.heap[g]?=some (.cells cur 193))) (HS:Hid (cur.size=n*2)) (HT:Hid (cur.toList.take (n*2)=qP l)) (HH:Hid (w.heap[h]?=some (.cells #[x,y] 193))):
 Calls prog 133 #[(g,0,n,n),i,.slice (some ⟨h,0,none⟩) 1 1] w (jt B (l.take i++[(x,y)]++l.drop i) w):=by
 obtain⟨G,V,az,L,D,c⟩:=iL w g i n cur l HG.o HS.o HT.o HN.o aw hl;have K:=L;unfold maxLen at L;have ag:(i:Int)<(n:Int):=by omega
 have am:((i:Int)==(n:Int))=false:=by rw[yU];omega
 have ar:(i==n)=false:=by rw[yU];omega
 have ax:decide (i=n)=false:=zJ (by omega);have an:i≠G:=by omega
 have af:i+1≠G:=by omega
 have p1:=zW ((i:Int)+1) (by omega);have p3:((i:Int)+1).toNat=i+1:=by omega
 have p4:(0:Int)<=(i:Int)+1:=by omega
 have p6:(i:Int)+1<=(n:Int)+1:=by omega
 have aq:(i:Int)+1<=(G:Int):=by omega
 have p7:¬G=i+1:=by omega
 have p8:¬G=i:=by omega
 have p9:(i:Int)<=(n:Int)+1:=by omega
 have p5:(n:Int)<(n:Int)+1:=by omega
 have av:¬n=i:=by omega
 have ak:i≠n:=by omega
 have ai:(i:Int)<=(n:Int):=by omega
 have ah:(i:Int)+1<=(n:Int):=by omega
 obtain⟨p,A⟩:=zA ((qP (l.take i)++V).toArray);rw[<-A.o]at c;have Q:p.size=G*2:=by rw[A.o];simp[rG,D];have:=HN.o;omega
 have t:=za Q;have aj:=za D;obtain⟨k,J⟩:=zA w.heap.size;rw[<-J.o]at c;have N:Hid ((w.drew.alloc (.cells p 193)).heap[k]?=some (.cells p 193)):=by show _=_;rw[J.o];exact zO w.drew _
 have aa:Hid ((w.drew.alloc (.cells p 193)).heap[g]?=some (.cells cur 193)):=by show _=_;rw[uW w.drew _ ay];exact HG.o
 have X:Hid ((w.drew.alloc (.cells p 193)).heap[h]?=some (.cells #[x,y] 193)):=by show _=_;rw[uW w.drew _ a0];exact HH.o
 have T:Below B w (w.drew.alloc (.cells p 193)):=(xW B w).drew.alloc au _;have H:w.heap.size+1=(w.drew.alloc (.cells p 193)).heap.size:=by simp
 generalize w.drew.alloc (.cells p 193)=q at *
 have W:=za c;clear c Q D;have C:B<=k:=by rw[J.o];omega
 have ac:=za H;clear H;have ao:k≠h:=by rw[J.o];omega
 have U:k≠g:=by rw[J.o];omega
 have f:∀(j:Nat) (v:Value),(qP [(x,y)])[j]?=some v->q.cell? ((⟨h,0,none⟩:Addr).add j)=some v:=λj v M=>by
  have m:(⟨h,0,none⟩:Addr).add j=⟨h,0+j,none⟩:=by unfold Addr.add;split<;>simp_all
  rw[m,yF,zC X.o,<-M,<-zK];rfl
 have s:=λty=>mt (P:=prog) q 87 87 ty 193 2 k (i*2) (n+1-i) (G-i) ⟨h,0,none⟩ 1 1 p 193 (qP [(x,y)]) rowT rowS N.o (by show 2=min 1 (n+1-i)*2;omega) f (by show i*2+2<=_;rw[t.o];omega) (N2 _);obtain⟨e,F⟩:=zA ((p.toList.take (i*2)++qP [(x,y)]++p.toList.drop (i*2+(qP [(x,y)]).length)).toArray);rw[<-F.o]at s;have O:Hid ((q.setRow k e).heap[k]?=some (.cells e 193)):=ya q _ _ _ _ _ N.o;have R:Hid ((q.setRow k e).heap[g]?=some (.cells cur 193)):=rF (w:=q) aa.o _ _ U.symm;have ab:Below B w (q.setRow k e):=tG T C _;have ad:w.heap.size<=(q.setRow k e).heap.size:=by have:=ac.o;simp[World.setRow];omega
 generalize q.setRow k e=Z at *
 clear f;go_enter func133,ntmps133;go_wp2_with (at_builtin;refine Mv _ rfl _ _ _ _ rfl _ _ rfl rfl _ _ (W.o _) ?_)
 clear s
 go_still_tail 8,(by kernel_rfl)
 go_wp2_with fail
 obtain⟨a,b⟩:=zA (qP (l.drop i));have r:a.length=(n-i)*2:=by rw[b.o,rG,Nk,HN.o]
 have u:∀(j:Nat) (v:Value),a[j]?=some v->Z.drew.cell? ((⟨g,i*2,none⟩:Addr).add j)=some v:=λj v M=>by
  have m:(⟨g,i*2,none⟩:Addr).add j=⟨g,i*2+j,none⟩:=by unfold Addr.add;split<;>simp_all
  have al:=(zG.1 M).1;rw[m,xQ Z.drew g (i*2+j) cur 193 (0,0) R.o];rw[b.o,(PK l i (by rw[<-HN.o];omega)).1,yy,<-HT.o,zI,ze (by omega)]at M;simpa using M
 have E:e.size=G*2:=by rw[F.o];simp[rG,t.o];omega
 rw[mt (P:=prog) Z.drew 87 87 _ 193 2 k ((i+1)*2) (n-i) (G-(i+1)) ⟨g,i*2,none⟩ (n-i) (n-i) e 193 a rowT rowS O.o (by rw[r];congr 1;show n-i=min (n-i) (n-i);omega) u (by rw[r,E];omega) (by rw[b.o];exact N2 _)];obtain⟨D2,z⟩:=zA ((e.toList.take ((i+1)*2)++a++e.toList.drop ((i+1)*2+a.length)).toArray);rw[<-z.o];have S:=za r;have ae:=za E;clear u r E;go_wp2;go_ret;refine⟨_,rfl,?_,tG ab.drew C _,by simpa[World.setRow]using ad⟩;have d:(l.take i++[(x,y)]++l.drop i).length=n+1:=by simp only[zl,Ni,Nk,yv,xC];have:=HN.o;omega
 rw[d];have I:(qP (l.take i)).length=i*2:=by rw[rG,Ni];have:=HN.o;omega
 have Y:e.toList.take ((i+1)*2)=qP (l.take i++[(x,y)]):=by
  rw[F.o,A.o,uE];show ((qP (l.take i)++V).take (i*2)++qP [(x,y)]++_).take ((i+1)*2)=_;have e1:(qP (l.take i)++V).take (i*2)=qP (l.take i):=by rw[<-I,sP]
  have e2:(qP (l.take i)++qP [(x,y)]).length=(i+1)*2:=by rw[zl,I,rG];show i*2+1*2=_;omega
  rw[e1,<-e2,sP]
 refine⟨by rw[rG,d],zw ⟨k,G,D2,rfl,C,ya _ _ _ _ _ _ O.o,by omega,K,?_,?_⟩⟩
 .rw[z.o];simp[ae.o,S.o];omega
 .rw[z.o];show (e.toList.take ((i+1)*2)++a++e.toList.drop ((i+1)*2+a.length)).take ((n+1)*2)=_;rw[Y,b.o,<-uE];rw[yC (by rw[rG,d];omega),zo (by rw[rG,d];omega)]
theorem Xe (B i) (v) (l:List (Int×Int)) (x y) (h) (w) (t:B<=w.heap.size) (z:l.length<=1000000) (C:i<=l.length) (s:w.ownsRow B 193 2 v l.length (qP l))
 (u:w.heap[h]?=some (.cells #[.int .i64 x,.int .i64 y] 193)) (A:∀g,v.ownBlock=some g->h≠g):
 Calls prog 133 #[v,(i:Int),.slice (some ⟨h,0,none⟩) 1 1] w (jt B (l.take i++[(x,y)]++l.drop i) w):=by
 by_cases o:i=l.length
 .subst o;rw[zo zL,yG zL,yY];exact Xd B v l x y h w t z s u
 .have d:i<l.length:=by omega
  obtain⟨m,⟨_,q⟩|⟨g,a,c,rfl,p,f,r,n,k,j⟩⟩:=s
  .omega
  .by_cases b:l.length+1<=a
   .exact oP B g a i l.length c l x y h w p rfl z d b n (A g rfl) f k j u
   .have e:a=l.length:=(by omega);subst e;exact j2 B g i l.length c l x y h w t rfl z d (xB f) (xB u) f k j u
def posQ : List (Int×Int)->Int->Nat
 | [],_=>0
 | x::l,u=>if x.1<u then posQ l u+1 else 0
theorem EK (l) (u):posQ l u<=l.length:=by
 induction l with
 | nil=>exact zL
 | cons x l a=>unfold posQ;split<;>simp<;>omega
theorem EM (l:List (Int×Int)) (u) (k) (hk):posQ (l.drop k) u=if l[k].1<u then posQ (l.drop (k+1)) u+1 else 0:=by rw[yR hk];rfl
def setQ (l:List (Int×Int)) (u lim:Int):List (Int×Int):=
 if lim = -1 then othQ l u else (othQ l u).take (posQ (othQ l u) u)++[(u,lim)]++(othQ l u).drop (posQ (othQ l u) u)
def PV (l:List (Int×Int)) (u lim:Int):Bool:=decide (lim≠-1)&&decide ((othQ l u).length=20)
def Yu (l:List (Int×Int)) (u lim:Int) (w:World) (e:Ending) (w':World):Prop:=
 (PV l u lim=true->e=.returned (.tuple #[.slice none 0 0,(6:Int)])) /\
 (PV l u lim=false->∃v,e=.returned (.tuple #[v,()])/\w'.ownsRow w 193 2 v (setQ l u lim).length (qP (setQ l u lim)))/\Below w w w'
theorem Wp (l) (u):(othQ l u).length<=l.length:=vJ _ _
theorem gH {b b':Nat} {e:TypeId} {size:Nat} {xs:List Value} (h:w.ownsRow b e size v n xs) (k:b'<=b):w.ownsRow b' e size v n xs:=by
 obtain⟨d,i|⟨g,c,a,f,j,r⟩⟩:=h
 .exact⟨d,zu i⟩
 .exact⟨d,zw ⟨g,c,a,f,zv k j,r⟩⟩
theorem K9 (v:Value) (l:List (Int×Int)) (u lim:Int) (w:World) (h:uq w v 2 l.length (qP l)) (hl:l.length<=20) (ab:okQ l=true) (ag:0<=u) (av:u<=255) (ax: -1<=lim) (ay:lim<=256):
 Calls prog 95 #[v,u,lim] w (Yu l u lim w):=by
 have ao:ZQ l=0:=by unfold ZQ;rw[zb (by omega),ze ab]
 have HR:Hid (∀W:World,Below w w W->Calls prog 129 #[v] W λe J=>e=.returned ()/\Below W W J):=λW L=>by have:=QX v l W (uq.below h L) (by omega);rw[ao]at this;exact this
 have HC:Hid (∀W:World,Below w w W->Calls prog 131 #[v] W (jt W l W)):=λW L=>iO v l W (uq.below h L) (by omega);have R:Hid (∀(B:Nat) (t:Value) (W:World),B<=W.heap.size->w.heap.size<B->W.cell? (w.heap.size,0)=some (.int .i64 u)->W.ownsRow B 193 2 t l.length (qP l) ->
  Calls prog 130 #[t,fnV w.heap.size] W (jt B (othQ l u) W)):=λB t W h1 h2 h3 h4=>D8 B t l u w W h1 h2 h3 (by omega) h4
 have HL:=za hl;have am:=za (EK (othQ l u) u);clear ao h ab;have au:(othQ l u).length<=20:=zv (Wp l u) hl;have h1:¬u<0:=by omega
 go_enter func95,ntmps95
 go_wp2_with fail
 refine (HR.o _ ((xW _ w).alloc zL _)).mono ?_;rintro e w1 ⟨rfl,M⟩;have aa:Below w w w1:=((xW _ w).alloc zL _).trans (M.mono (by simp));have D:w.heap.size<w1.heap.size:=by have:=M.size;simp at this;omega
 have T:w1.cell? (w.heap.size,0)=some (.int .i64 u):=by rw[M.cell (p:=⟨w.heap.size,0,none⟩) (by simp)];simp
 clear M;go_wp2_with fail
 refine (HC.o _ aa).mono ?_;rintro e w2 ⟨v2,rfl,y,X,aq⟩;have af:Below w w w2:=aa.trans (X.mono (by omega));have G:w2.cell? (w.heap.size,0)=some (.int .i64 u):=by rw[X.cell (p:=⟨w.heap.size,0,none⟩) D];exact T
 have F:=za y;clear y X T HC HR;go_wp2_with fail
 refine (R.o w1 v2 w2 aq D G F.o).mono ?_;rintro e O ⟨v3,rfl,f,Y,aB⟩;have Z:Below w w O:=af.trans (Y.mono (by omega));have ak:O.cell? (w.heap.size,0)=some (.int .i64 u):=by rw[Y.cell (p:=⟨w.heap.size,0,none⟩) D];exact G
 have j:=za f;obtain⟨q,c,a0,hq⟩:=rU f;clear Y G f R F af aa;subst a0;obtain⟨n,s⟩:=zA ((othQ l u).length);rw[<-s.o]at au |-;obtain⟨P,HP⟩:=zA (posQ (othQ l u) u);have ad:∀(t:Value) (J:World),(∀hf:PV l u lim=false,J.ownsRow w 193 2 t (setQ l u lim).length (qP (setQ l u lim)))->PV l u lim=false->Below w w J->Yu l u lim w (.returned (.tuple #[t,()])) J:=λt J a b c=>
  ⟨λh=>by rw[b]at h;exact yi h (by simp),λhf=>⟨t,rfl,a hf⟩,c⟩
 have ai:=za ad;clear ad;by_cases r:lim = -1
 .subst r;have HF:Hid (PV l u (-1)=false):=by show _=_;unfold PV;simp
  have HS:Hid (setQ l u (-1)=othQ l u):=by show _=_;unfold setQ;rw[ze rfl]
  go_wp2;go_ret2;refine ai.out _ _ (λ_=>?_) HF.o Z;rw[HS.o,<-s.o];have U:=j.o;rw[<-s.o]at U;exact gH U (pm D)
 .have b1:(lim==-1)=false:=by rw[yU];exact r
  have N:=za r;clear r;by_cases E:n=20
  .have HF:Hid (PV l u lim=true):=(by show _=_;unfold PV;rw[<-s.o];simp[E,N.o]);subst E;go_wp2;go_ret2;exact⟨λ_=>rfl,λh=>by rw[HF.o]at h;exact yi h (by simp),Z⟩
  .have HF:Hid (PV l u lim=false):=(by show _=_;unfold PV;rw[<-s.o];simp[E]);have b2:((n:Int)==20)=false:=(by rw[yU];omega);have HS:Hid (setQ l u lim=(othQ l u).take P++[(u,lim)]++(othQ l u).drop P):=(by show _=_;unfold setQ;rw[zb N.o,HP.o]);have a1:=za (P9 (uq.of_owns j.o));have aj:Hid (∀(W:World),Below O O W->Calls prog 133 #[(q,n,c),P,.slice (some ⟨W.heap.size,0,none⟩) 1 1] (W.alloc (.cells #[u,lim] 193)) (jt w1 (setQ l u lim) (W.alloc (.cells #[u,lim] 193)))):=λW L=>(by have U:=tt j.o L;have:=Xe w1 P (q,n,c) (othQ l u) u lim W (W.alloc (.cells #[u,lim] 193)) (by have:=L.size;simp;omega) (by rw[<-s.o];omega) (by rw[HP.o];exact am.o) (by rw[<-s.o];have:=U.alloc (.cells #[u,lim] 193);rw[<-s.o]at this;exact this) (zO W _) (λg hg=>by have:=(U.lt g (by rw[<-s.o]at *;exact hg)).2;omega);rw[<-HS.o]at this;exact this);have aE:Hid (∀g,q=some g->True):=λ_ _=>trivial;go_wp2;go_loopw [10] (λi wr=>∃k:Nat,k<=n/\i=.int .i64 k/\Hid (P=k+posQ ((othQ l u).drop k) u)/\Below O O wr) (λi _=>n-(intOf i).toNat)
   .exact⟨0,by omega,rfl,by show _=_;rw[HP.o,vy,yF],zB⟩
   .obtain⟨k,hk,rfl,HO,HB⟩:=hrel;have aI:wr.cell? (w.heap.size,0)=some (.int .i64 u):=(by rw[HB.cell (p:=⟨w.heap.size,0,none⟩) (by show w.heap.size<_;omega)];exact ak);have Q:∀W t J,P=k->Below O O W->jt w1 (setQ l u lim) (W.alloc (.cells #[u,lim] 193)) (.returned t) J->Yu l u lim w (.returned (.tuple #[t,()])) J:=λW t J _ L hr=>(by obtain⟨aK,hv,U,hb,_⟩:=hr;cases hv;exact ai.out _ _ (λ_=>gH U (pm D)) HF.o ((Z.trans (L.mono (by omega))).trans ((((xW _ W).alloc zL _).mono (by have:=L.size;omega)).trans (hb.mono (by omega)))));have S:=za Q;clear Q;by_cases ar:k<n
    .have al:k<(othQ l u).length:=(by rw[<-s.o];exact ar);have R:=EM (othQ l u) u k al;obtain⟨a',c',an,ah⟩:=a1.o;obtain⟨g,o,rfl,hg,hc⟩:=ah (by rw[<-s.o];omega);rw[<-s.o]at an;cases an;obtain⟨x,Hx⟩:=zA ((othQ l u)[k].1);have c0:wr.cell? (g,o+k*2)=some (.int .i64 x):=(by rw[HB.cell (p:=⟨g,o+k*2,none⟩) hg,(hc k al).1,Hx.o]);rw[<-Hx.o]at R;clear hc ah;by_cases K:x<u
     .have aw:Hid (P=k+1+posQ ((othQ l u).drop (k+1)) u):=(by show _=_;rw[HO.o,R,ze K];omega);have d1:decide (x<u)=true:=zX K;clear R;go_wp2
      go_quiet (fail)
      go_wp2;go_roundw
      .exact⟨k+1,by omega,by go_num,aw,below_drewN HB _⟩
      .simp[intOf];omega
     .have A:Hid (P=k):=(by show _=_;rw[HO.o,R,zb K];rfl);have d1:decide (x<u)=false:=zJ K;clear R;go_wp2
      go_quiet (fail)
      go_wp2_with fail
      have m:=aj.o;rw[A.o]at m;refine (m _ (below_drewN HB _)).mono ?_;rintro e w4 ⟨v4,rfl,d,I,C⟩;have H:=S.out _ v4 w4 A.o (below_drewN HB _) ⟨v4,rfl,d,I,C⟩;have V:=za H;clear d I C H m;go_wp2;go_ret2;exact V.o
    .have ap:k=n:=(by omega);subst ap;have A:Hid (P=k):=(by show _=_;rw[HO.o,vd (by rw[<-s.o];omega)];rfl);have d1:decide (k<k)=false:=zJ (by omega);have d2:decide ((k:Int)<(k:Int))=false:=zJ (by omega);obtain⟨z,hz⟩:∃z:Nat,z=0:=⟨0,rfl⟩
     .go_wp2
      go_quiet (fail)
      go_wp2_with fail
      have m:=aj.o;rw[A.o]at m;refine (m _ (below_drewN HB _)).mono ?_;rintro e w4 ⟨v4,rfl,d,I,C⟩;have H:=S.out _ v4 w4 A.o (below_drewN HB _) ⟨v4,rfl,d,I,C⟩;have V:=za H;clear d I C H m;go_wp2;go_ret2;exact V.o
def Zt (l:List (Int×Int)):List Int:=l.flatMap λx=>[x.1,x.2%256,x.2 / 256]
theorem Su (l):(Zt l).length=l.length*3:=by
 induction l with
 | nil=>rfl
 | cons x l a=>simp only[Zt,Nm,zl,yv,xC]at *;omega
theorem QN (a b):Zt (a++b)=Zt a++Zt b:=by simp[Zt]
def RK (n:Int) (l:List (Int×Int)):List Int:=n::(Zt l++List.replicate (63-l.length*3) 0)
theorem Rt (n) (l) (h:l.length<=20):(RK n l).length=64:=by have:=Su l;simp[RK];omega
theorem KD (n) (l) (x) (h:l.length<20):
 (((byts (RK n l)).setIfInBounds (l.length*3+1) (.int .u8 x.1)).setIfInBounds (l.length*3+2) (.int .u8 (x.2%256))).setIfInBounds (l.length*3+3) (.int .u8 (x.2 / 256))=byts (RK n (l++[x])):=by
 have a:=Su l;unfold byts RK;rw[QN,zl,show 63-l.length*3=(60-l.length*3)+1+1+1 by omega,wY,wY,wY,show 63-(l.length+[x].length)*3=60-l.length*3 by simp;omega];simp only[zP,yo,yB,yb];rw[vh _ _ (by simp;omega)];rw[show l.length*3-(List.map (λn=>Value.int IntKind.u8 n) (Zt l)).length=0 by simp;omega];rw[vh _ _ (by simp;omega)];rw[show l.length*3+1-(List.map (λn=>Value.int IntKind.u8 n) (Zt l)).length=1 by simp;omega];rw[vh _ _ (by simp;omega)];rw[show l.length*3+2-(List.map (λn=>Value.int IntKind.u8 n) (Zt l)).length=2 by simp;omega];simp[Zt]
theorem make64 (W):(Instr.makeSlice 38 (.int .i64 64) (.int .i64 64)).run prog W=.ok (.slice (some ⟨W.heap.size,0,none⟩) 64 64) (W.alloc (.cells (byts (RK 0 [])) 5)):=by kernel_rfl
theorem Vk (n):(byts (RK 0 [])).setIfInBounds 0 (.int .u8 n)=byts (RK n []):=rfl
def l6 (l:List (Int×Int)) (w:World) (e:Ending) (w':World):Prop:=
 ∃g,e=.returned (.tuple #[.slice (some ⟨g,0,none⟩) 64 64,()])/\w.heap.size<=g/\w'.heap[g]?=some (.cells (byts (RK l.length l)) 5)/\Below w w w'
theorem gW {l:List (Int×Int)} (h:ZQ l=0):l.length<=20/\okQ l=true:=by
 unfold ZQ at h;split at h
 .cases h
 .split at h
  .exact⟨by omega,by assumption⟩
  .cases h
theorem EQ (v) (l) (w) (h:uq w v 2 l.length (qP l)) (d:l.length<=1000000) (c) (f:Hid (ZQ l=c)) (g:(c != 0)=true):
 Calls prog 124 #[v] w (κ w (.tuple #[.slice none 0 0,(c:Int)])):=by
 have a:=za (QX v l w h d);rw[f.out]at a;clear h;go_enter func124,ntmps124;go_wp2_with fail
 refine a.o.mono ?_;rintro e w' ⟨rfl,b⟩;go_wp2;go_ret2;exact⟨rfl,b⟩
theorem TW (v) (l) (w) (h:uq w v 2 l.length (qP l)) (hr:ZQ l=0):
 Calls prog 124 #[v] w (l6 l w):=by
 obtain⟨D,F⟩:=gW hr;have O:=QX v l w h (by omega);rw[hr]at O;have R:=za O;have M:=za F;obtain⟨a,c,hv,HC⟩:=P9 h;obtain⟨n,E⟩:=zA l.length;rw[<-E.o]at hv D;have J:=za HC;clear HC h F hr O;subst hv;unfold l6;rw[<-E.o];obtain⟨u,S⟩:=zA (byts (RK 0 []));have P:∀W,(Instr.makeSlice 38 (.int .i64 64) (.int .i64 64)).run prog W=.ok (.slice (some ⟨W.heap.size,0,none⟩) 64 64) (W.alloc (.cells u 5)):=λW=>by rw[S.o];exact make64 W
 go_enter func124,ntmps124
 go_wp2_with fail
 refine R.o.mono ?_;rintro e d ⟨rfl,C⟩;have b:=C.size;obtain⟨B,HB⟩:=zA d.heap.size;have z:Hid ((d.alloc (.cells u 5)).heap[B]?=some (.cells u 5)):=by show _=_;rw[HB.o];exact zH
 have K:Below w w (d.alloc (.cells u 5)):=C.alloc b _;have G:(d.alloc (.cells u 5)).cell? (B,0)=some (.int .u8 0):=by rw[zC z.out,S.o];rfl
 have f0:(d.alloc (.cells u 5)).frozen? (B,0)=false:=zF z.out;rw[HB.o]at G f0;have N:n%256=(n:Int):=by omega
 go_wp2_with fail
 have T:Hid ((d.alloc (Obj.cells (u.setIfInBounds 0 (Value.int IntKind.u8 n)) 5)).heap[d.heap.size]?=some (.cells (byts (RK n (l.take 0))) 5)):=by show _=_;rw[zO,S.o,Vk];rfl
 have Q:Below w w (d.alloc (Obj.cells (u.setIfInBounds 0 (Value.int IntKind.u8 n)) 5)):=C.alloc b _;clear P z K G f0 N;go_loopw [21] (λi wr=>∃k:Nat,k<=n/\i=.int .i64 k/\Below w w wr/\Hid (wr.heap[d.heap.size]?=some (.cells (byts (RK n (l.take k))) 5))) (λi _=>n-(intOf i).toNat)
 .exact⟨0,yh _,rfl,Q,T⟩
 .obtain⟨k,hk,rfl,m,r⟩:=hrel;by_cases I:k<n
  .have f:k<l.length:=(by rw[<-E.o];exact I);obtain⟨g,o,rfl,Z,U⟩:=J.o (by omega);obtain⟨x,L⟩:=zA (l[k].1);obtain⟨y,V⟩:=zA (l[k].2);have c0:wr.cell? (g,o+k*2)=some (.int .i64 x):=(by rw[m.cell (p:=⟨g,o+k*2,none⟩) Z,(U k f).1,L.o]);have c1:wr.cell? (g,o+k*2+1)=some (.int .i64 y):=(by rw[m.cell (p:=⟨g,o+k*2+1,none⟩) Z,(U k f).2,V.o]);have ho:=(ft l k).1 (E6 M.o k f);rw[gK l k f,<-L.o,<-V.o]at ho;obtain⟨G,x1,y0,y1,_⟩:=ho;have t:(l.take k).length=k:=(by rw[Ni,<-E.o];omega);have X:Hid (l.take (k+1)=l.take k++[(x,y)]):=(by show _=_;rw[<-zU f,L.o,V.o]);have A:(byts (RK n (l.take k))).size=64:=(by have:=Rt n (l.take k) (by omega);simpa[byts]using this);have hB:=xB r.o;have q:∀j,j<64->∃x,wr.cell? ⟨d.heap.size,j,none⟩=some x:=λj hj=>(by rw[zC r.o];exact⟨_,xx (by rw[A];exact hj)⟩);obtain⟨z1,ai⟩:=q (3*k+1) (by omega);obtain⟨z2,aj⟩:=q (3*k+2) (by omega);obtain⟨z3,al⟩:=q (3*k+3) (by omega);have f1:wr.frozen? (d.heap.size,3*k+1)=false:=zF r.o;have f2:wr.frozen? (d.heap.size,3*k+2)=false:=zF r.o;have f3:wr.frozen? (d.heap.size,3*k+3)=false:=zF r.o;have ak:=za A;have s:=za t;clear q U A t;go_wp2
   go_region
   all_goals
    go_wp2;go_roundw;case rel=>
     refine⟨k+1,by omega,by go_num,?_,?_⟩
     .exact ((((m.setCell b _).setCell b _).setCell b _).alloc (((m.setCell b _).setCell b _).setCell b _).size _).drew
     .have h1:=un (zT _ _ (3*k+3) _ _ (.int .u8 (y / 256)) (zT _ _ (3*k+2) _ _ (.int .u8 (y%256)) (zT _ _ (3*k+1) _ _ (.int .u8 x) r.o))) (Obj.cells #[Value.int IntKind.i64 x,Value.int IntKind.i64 y] 193);have Y:=KD n (l.take k) (x,y) (by rw[s.o];omega);rw[s.o,show k*3=3*k by omega,<-X.o]at Y;show _=_;rw[<-Y];exact h1
    case measure=>simp[intOf];omega
  .have H:k=n:=(by omega);have HF:Hid (l.take k=l):=(by show _=_;rw[H,E.o];exact xN);have H4:Hid (wr.heap[d.heap.size]?=some (.cells (byts (RK n l)) 5)):=(by have:=r.o;rw[HF.o]at this;exact this);clear r HF;go_wp2;go_ret2;exact⟨_,rfl,b,H4.o,m⟩
end Go.Proofs.YtpcedcnjofbgjaaGreatDoor
namespace Go.Proofs.YtpcedcnjofbgjaaGreatDoor
open Go.Proofs.Tryz
variable {P bs:List Int} {a:Act} {l:List (Int×Int)} {lim u:Int} {o:Oper} {w:World}
def Srt (l:List (Int×Int)):Prop:=(∀x∈l,0<=x.1/\x.1<=255/\0<=x.2/\x.2<=256)/\l.Pairwise (λa b=>a.1<b.1)
theorem jX (l):okQ l=true↔Srt l:=by
 constructor
 .intro h;have c:=λi a=>(ft l i).1 (E6 h i a);constructor
  .intro x m;obtain⟨i,a,rfl⟩:=Mu.1 m;have:=c i a;rw[gK l i a]at this;omega
  .rw[wy];intro i j a d f
   induction j with
   | zero=>omega
   | succ j g=>
    have b:=c (j+1) d;rw[gK l (j+1) d,qg,gK l j (by omega)]at b;by_cases e:i=j
    .subst e;omega
    .have:=g (by omega) (by omega);omega
 .rintro ⟨k,b⟩;refine IE λi a=>(ft l i).2 ?_;rw[gK l i a];have:=k _ (Nj a);refine⟨by omega,by omega,by omega,by omega,?_⟩;by_cases e:i=0
  .exact zu e
  .right;rw[gK l (i-1) (by omega)];exact (wy.1 b) (i-1) i (by omega) a (by omega)
theorem Wo {x:Int×Int} (h:x∈othQ l u):x∈l/\x.1≠u:=by unfold othQ at h;rw[Mo]at h;exact⟨h.1,by simpa using h.2⟩
theorem Ga (l:List (Int×Int)) (u):∀x∈l.take (posQ l u),x.1<u:=by
 induction l with
 | nil=>intro x a;simp at a
 | cons y l b=>
  intro x a;unfold posQ at a;split at a
  .rw[vu]at a;rcases yZ.1 a with rfl|a
   .assumption
   .exact b x a
  .simp at a
theorem EL (l:List (Int×Int)) (u) (e:l.Pairwise (λa b=>a.1<b.1)):∀x∈l.drop (posQ l u),u<=x.1:=by
 induction l with
 | nil=>intro x c;simp at c
 | cons y l d=>
  intro x c;rw[xY]at e;unfold posQ at c;split at c
  .rw[vv]at c;exact d e.2 x c
  .rw[vy]at c;rcases yZ.1 c with rfl|c
   .omega
   .have:=e.1 x c;omega
theorem CK (u) (h:Srt l):Srt (othQ l u):=⟨λx a=>h.1 x (Wo a).1,h.2.filter _⟩
theorem CJ (h:Srt l) (p:0<=u) (n:u<=255) (q: -1<=lim) (o:lim<=256):Srt (setQ l u lim):=by
 unfold setQ;have f:=CK u h;split
 .exact f
 .have c:=Ga (othQ l u) u;have e:=EL (othQ l u) u f.2;have j:∀x∈(othQ l u).drop (posQ (othQ l u) u),x.1≠u:=λx d=>(Wo (vN d)).2;refine⟨λx d=>?_,?_⟩
  .simp only[yN,yZ,oK,MN]at d;rcases d with (d|rfl)|d
   .exact f.1 x (xI d)
   .simp only;omega
   .exact f.1 x (vN d)
  .rw[ME,ME];refine⟨⟨f.2.sublist (List.take_sublist _ _),by simp,λa g b i=>?_⟩,f.2.sublist (List.drop_sublist _ _),λa g b i=>?_⟩
   .simp at i;subst i;exact c a g
   .have m:=e b i;have k:=j b i;simp only[yN,yZ,oK,MN]at g;rcases g with g|rfl
    .have:=c a g;omega
    .simp only;omega
theorem CN (h:l.length<=20) (b:PV l u lim=false):(setQ l u lim).length<=20:=by
 have:=Wp l u;unfold setQ;split
 .omega
 .rename_i a;have:(othQ l u).length≠20:=λe=>by unfold PV at b;simp[e,a]at b
  have:=EK (othQ l u) u;simp;omega
open Go.RowKit
def V5 (bs:List Int) (w:World) (e:Ending) (w':World):Prop:=
 (eI bs/\∃v,e=.returned (.tuple #[v,()])/\tP w' v (kR bs).1/\Below w w w'/\∀b,v.ownBlock=some b->w.heap.size<=b) \/
 (¬eI bs/\e=.returned (.tuple #[.slice none 0 0,(3:Int)])/\Below w w w')
theorem N0 {a b:ByteArray} (h:a.toList=b.toList):a=b:=by
 rw[ByteArray.toList_eq,ByteArray.toList_eq]at h;cases a;cases b;simp only[ByteArray.mk.injEq]at *
 exact Array.toList_inj.1 h
theorem We : ∀(bs),(∀x,x∈bs->0<=x/\x<=255)->∀y,y∈rN bs->(0<=y.1/\y.1<=255)/\0<=y.2/\y.2<=255
 | [],_,y,b=>by simp[rN]at b
 | [_],_,y,b=>by simp[rN]at b
 | a::n::r,h,y,b=>by
  rw[rN]at b;split at b
  .rcases yZ.1 b with rfl|b
   .exact⟨h a (by simp),h n (by simp)⟩
   .exact We r (λx c=>h x (by simp[c])) y b
  .simp at b
theorem Gh (h:∀x,x∈l->(0<=x.1/\x.1<=255)/\0<=x.2/\x.2<=255):∀y,y∈qK l->0<=y/\y<=255:=by
 intro y a;rcases yN.1 a with a|a
 .obtain⟨x,b,a⟩:=Np.1 a;have:=h x b;simp at a;rcases a with rfl|rfl<;>omega
 .have:=wO a;omega
theorem Qo (c:mT P=0):∀y,y∈qK (ofE P)->0<=y/\y<=255:=by refine Gh λx a=>?_;have b:=gV c;have:=(QK P.length P rfl (PJ c)).1 x (by simpa[ofE]using a);omega
theorem RC (b:mT P=0):(qK (ofE P)).length=16:=by
 have a:=gV b;have:=(QK P.length P rfl (PJ b)).2;simp only[qK,zl,xt,Qu];have e:(ofE P).length=(ofR P).length:=by simp[ofE]
 omega
theorem QD (w) (g n) (ns) (t) (b:ns.length=n) (h:w.heap[g]?=some (.cells (byts ns) t)):
 (convert 38 9 (.slice (some ⟨g,0,none⟩) n n)).run prog w=.ok (.string (tu ns)) w:=
 sC w 38 9 5 g 0 n n ns b (by kernel_rfl) (by kernel_rfl) (by kernel_rfl) (λj v a=>by rw[yF,zC h];simpa[byts]using a)
theorem V9 (v) (bs) (w) (h:uM w v bs) (n:bs.length≠16) (r:bs.length<=1000000):
 Calls prog 144 #[v] w (V5 bs w):=by
 have _:=r;obtain⟨N,a⟩:=zA bs.length;obtain⟨q,c,j⟩:∃p c,v=.slice p N c:=by
  rw[a.o];obtain⟨_,⟨k,d,e,rfl⟩|⟨g,o,b,rfl,m⟩⟩:=h
  .exact⟨d,e,by rw[k]⟩
  .exact⟨_,b,rfl⟩
 subst j;rw[<-a.o]at r n;have f:((N:Int) != 16)=true:=by rw[tT];omega
 have i:Hid (¬eI bs):=λl=>n (a.o.trans l.1);clear h n;go_enter func144,ntmps144;go_wp2;go_ret2;exact zw ⟨i.o,rfl,zB⟩
theorem W5 (
 bs) (g off cap) (w) (hc:∀j (hj),w.cell? ⟨g,off+j,none⟩=some (.int .u8 bs[j])) (hn:bs.length=16) (hx:∀x,x∈bs->0<=x/\x<=255):
 Calls prog 144 #[.slice (some ⟨g,off,none⟩) 16 cap] w (V5 bs w):=by
 have HC:=za hc;have M:=za hn;have HX:=za hx;have Z:=za (We bs hx);have ao:=0;clear hc hn hx ao;obtain⟨i0,hi,V,ac,aa⟩:=yX Z2;have HI:=za hi;have a5:=za V;have a6:=za ac;have aq:=za aa;clear hi V ac aa;go_enter func144,ntmps144;go_wp2;go_loopw [4,5] (λo i wr=>∃(k m:Nat) (d:List (Int×Int)),m<=16/\i=.int .i64 m/\Hid (m=2*k/\d.length=k)/\Hid (d++rN (bs.drop (2*k))=rN bs)/\Hid (wr.ownsRow w 232 2 o d.length (qP d))/\Below w w wr) (λ_ i _=>16-(intOf i).toNat)
 .exact⟨0,0,[],by omega,rfl,⟨rfl,rfl⟩,rfl,yL _ _ _ _,zB⟩
 .obtain⟨k,m,d,hk,rfl,L,HR,T,y⟩:=hrel;by_cases aL:m<16
  .have a8:m<=14:=(by have:=L.o.1;omega);have h1:2*k<bs.length:=(by rw[M.o];have:=L.o.1;omega);have Y:2*k+1<bs.length:=(by rw[M.o];have:=L.o.1;omega);have e1:=HC.o (2*k) h1;have e2:=HC.o (2*k+1) Y;have c1:=(y.cell (zy e1)).trans e1;have c2:=(y.cell (zy e2)).trans e2;have r1:=HX.o _ (Nj h1);have r2:=HX.o _ (Nj Y);have hd:=YQ bs k Y;obtain⟨a,ha⟩:=zA (bs[2*k]);obtain⟨n,hn⟩:=zA (bs[2*k+1]);rw[<-ha.out]at c1 r1 hd;rw[<-hn.out]at c2 r2 hd;rw[<-L.o.1]at c1 c2;have HD:=za hd;clear e1 e2 hd;obtain⟨aU,aH⟩:=r1;obtain⟨R,aI⟩:=r2;have O:=(T.o.alloc (.cells #[a,n] 232)).lt;have U:=za O;clear O;by_cases R:0<n
   .have s1:=zW (m+1) (by omega);have s2:0<=(m:Int)+1:=(by omega);have s3:((m:Int)+1).toNat=m+1:=(by omega);have s4:(m:Int)+1<16:=(by omega);have s5:(m:Int)<16:=(by omega);have s6:IntKind.i64.wrap a=a:=zM _ (by omega);have s7:IntKind.i64.wrap n=n:=zM _ (by omega);have hL:d.length<=7:=(by have:=L.o;omega);have ag:Value.ownBlock u4≠some g:=λhq=>(by have h1:=(U.o g hq).1;have Y:=zy (HC.o 0 (by rw[M.o];omega));simp at Y;omega);have AG:=za ag;have ak:=zy c1;simp only at ak;have aV:Hid (Below w w wr.drew):=⟨y.os,y.tape,y.output,y.size,y.block⟩;have ab:Hid (∀q,Value.ownBlock u4=some q->w.heap.size<=q):=λq hq=>(U.o q hq).1;have aJ:=y.size;clear ag;go_wp2_with fail
    go_region_held3 (λw'=>w'.cell? (g,off+m)=some (.int .u8 a)/\w'.cell? (g,off+(m+1))=some (.int .u8 n))
     (first
      | go_keep
      | (
       go_split_ands
       refine⟨?_,?_⟩
       ·(rw[s.cell_far _ (by simp;omega) (yA AG.out)];assumption)
       ·(rw[s.cell_far _ (by simp;omega) (yA AG.out)];assumption)))
     ((
      refine ut _ (by rfl) _ _ _ (by rfl) w.heap.size 232 i0 _ 2 16 Ib HI.o a5.o a6.o aq.o rfl (by omega) u4 d.length (qP d) (by rfl) ((T.o.alloc _).drew)
       ⟨wr.heap.size,0,none⟩ 1 1 [.int .i64 a,.int .i64 n] (by rfl) (by rfl) (xF (cs:=#[.int .i64 a,.int .i64 n]) (t:=232) (fr:=(0,0)) (zO wr _)) (by simp[Value.oneCell'])
       (by omega) (by unfold maxLen;omega) (by omega) (by simp;omega) (wr.heap.size+1) (by simp) ?_;intro gg W F N s a0 X))
    have au:Hid (F.ownsRow w 232 2 (gg,0,(d.length+1),W) (d++[(a,n)]).length (qP (d++[(a,n)]))):=(by rw[uE,zl];exact N);have az:=Cd (NL (y.alloc y.size _) 1) s (by simp[World.drewN];omega) ab.o;have am:Hid ((d++[(a,n)])++rN (bs.drop (2*(k+1)))=rN bs):=(by rw[<-HR.o,HD.o,ze R];simp[Hid]);clear N s a0 X s1 s3 s6 s7;go_wp2;go_roundw
    .exact⟨k+1,m+2,d++[(a,n)],by omega,by go_num,by have:=L.o;exact⟨by omega,by simp;omega⟩,am,au,az⟩
    .simp[intOf];omega
   .have l:Hid (d=rN bs):=(by rw[<-HR.o,HD.o,zb R];simp[Hid]);have a7:n=0:=(by omega);subst a7;have hL:d.length<=8:=(by have:=L.o;omega);obtain⟨q2,c2,ho,_⟩:=rU T.o;subst ho;go_wp2_with fail
    refine (kf _ d _ (uq.of_owns T.o) (by omega) (λx hx=>by rw[l.o]at hx;have:=Z.o x hx;omega)).mono ?_;rintro e w3 (⟨E,v,rfl,f,D⟩|⟨E,rfl,D⟩)
    .have J:Hid ((kR bs).2=0):=(by rw[kR,<-l.o];exact E);have z:=za (oZ J.o);have I:Hid (tP w3 v (kR bs).1):=(by have:=uq.of_owns f;rw[l.o]at this;exact this);have P:Hid (∀b,v.ownBlock=some b->w.heap.size<=b):=λb hb=>zv y.size (f.lt b hb).1;clear E f;have B:=zi y D;go_wp2_with fail
     refine (Qn _ (kR bs).1 _ I.o z.o).mono ?_;rintro e F ⟨g4,rfl,a1,H,K⟩;have C:=zi B K;have u:=QD F g4 16 _ _ (RC z.o) H;have A:(convert 38 9 (.slice (some (g,off)) 16 cap)).run prog F=.ok (.string (tu bs)) F:=
      sC F 38 9 5 g off cap 16 bs M.o (by kernel_rfl) (by kernel_rfl) (by kernel_rfl) (λj x hx=>by
       have hj:j<bs.length:=by
        rcases pj j bs.length with h|h
        .exact h
        .rw[yW (by simpa using h)]at hx;cases hx
       have e:(bs.map (Value.int .u8))[j]?=some (.int .u8 bs[j]):=(by simp[hj]);rw[e]at hx;cases hx;have:=HC.o j hj;exact (C.cell (zy this)).trans this)
     have Q:Hid (tP F v (kR bs).1):=uq.below I.o K;clear H;by_cases p:qK (ofE (kR bs).1)=bs
     .have G:Hid (eI bs):=⟨M.o,J.o,p⟩;rw[p]at u;clear p;generalize tu bs=S at u A;go_wp2;go_ret2;exact zu ⟨G.o,_,rfl,Q.o,C,P.o⟩
     .have G:Hid (¬eI bs):=λh=>p h.2.2;have r:tu (qK (ofE (kR bs).1))≠tu bs:=λh=>p (NI (Qo z.o) HX.o h);clear p;generalize tu bs=S at u A r;generalize tu (qK (ofE (kR bs).1))=S' at u A r;have ae:(S'.toList==S.toList)=false:=(by rw[yU];exact λh=>r (N0 h));clear r;go_wp2;go_ret2;exact zw ⟨G.o,rfl,C⟩
    .have G:Hid (¬eI bs):=λh=>E (by rw[l.o];exact h.2.1);generalize (ptsR d []).2=c at E;have av:(c != 0)=true:=(by rw[tT];exact E);have B:=zi y D;clear E;go_wp2;go_ret2;exact zw ⟨G.o,rfl,B⟩
  .have l:Hid (d=rN bs):=(by rw[<-HR.o,yG (by rw[M.o];have:=L.o;omega)];simp[Hid,rN]);have hL:d.length<=8:=(by have:=L.o;omega);obtain⟨q2,c2,ho,_⟩:=rU T.o;subst ho;go_wp2_with fail
   refine (kf _ d _ (uq.of_owns T.o) (by omega) (λx hx=>by rw[l.o]at hx;have:=Z.o x hx;omega)).mono ?_;rintro e w3 (⟨E,v,rfl,f,D⟩|⟨E,rfl,D⟩)
   .have J:Hid ((kR bs).2=0):=(by rw[kR,<-l.o];exact E);have z:=za (oZ J.o);have I:Hid (tP w3 v (kR bs).1):=(by have:=uq.of_owns f;rw[l.o]at this;exact this);have P:Hid (∀b,v.ownBlock=some b->w.heap.size<=b):=λb hb=>zv y.size (f.lt b hb).1;clear E f;have B:=zi y D;go_wp2_with fail
    refine (Qn _ (kR bs).1 _ I.o z.o).mono ?_;rintro e F ⟨g4,rfl,a1,H,K⟩;have C:=zi B K;have u:=QD F g4 16 _ _ (RC z.o) H;have A:(convert 38 9 (.slice (some (g,off)) 16 cap)).run prog F=.ok (.string (tu bs)) F:=
     sC F 38 9 5 g off cap 16 bs M.o (by kernel_rfl) (by kernel_rfl) (by kernel_rfl) (λj x hx=>by
      have hj:j<bs.length:=by
       rcases pj j bs.length with h|h
       .exact h
       .rw[yW (by simpa using h)]at hx;cases hx
      have e:(bs.map (Value.int .u8))[j]?=some (.int .u8 bs[j]):=(by simp[hj]);rw[e]at hx;cases hx;have:=HC.o j hj;exact (C.cell (zy this)).trans this)
    have Q:Hid (tP F v (kR bs).1):=uq.below I.o K;clear H;by_cases p:qK (ofE (kR bs).1)=bs
    .have G:Hid (eI bs):=⟨M.o,J.o,p⟩;rw[p]at u;clear p;generalize tu bs=S at u A;go_wp2;go_ret2;exact zu ⟨G.o,_,rfl,Q.o,C,P.o⟩
    .have G:Hid (¬eI bs):=λh=>p h.2.2;have r:tu (qK (ofE (kR bs).1))≠tu bs:=λh=>p (NI (Qo z.o) HX.o h);clear p;generalize tu bs=S at u A r;generalize tu (qK (ofE (kR bs).1))=S' at u A r;have ae:(S'.toList==S.toList)=false:=(by rw[yU];exact λh=>r (N0 h));clear r;go_wp2;go_ret2;exact zw ⟨G.o,rfl,C⟩
   .have G:Hid (¬eI bs):=λh=>E (by rw[l.o];exact h.2.1);generalize (ptsR d []).2=c at E;have av:(c != 0)=true:=(by rw[tT];exact E);have B:=zi y D;clear E;go_wp2;go_ret2;exact zw ⟨G.o,rfl,B⟩
theorem YH (v) (bs) (w) (h:uM w v bs) (i:bs.length<=1000000) (k:∀x,x∈bs->0<=x/\x<=255):
 Calls prog 144 #[v] w (V5 bs w):=by
 by_cases c:bs.length=16
 .obtain⟨_,⟨f,_⟩|⟨g,a,b,rfl,e⟩⟩:=h
  .omega
  .rw[c];exact W5 bs g a b w (λj d=>e j _ (Ch bs j d)) c k
 .exact V9 v bs w h c i
def delT (f:Fo) (k:Nat):Fo:=⟨λa=>if a=k then λ_=>0 else f.nd a,λa=>if a=k then emp else f.hs a⟩
theorem Hk (f) (k) (m:k<4):((encF f).toList.take (k*48)++(encT mR 0).toList++(encF f).toList.drop (k*48+(encT mR 0).size)).toArray=encF (delT f k):=by
 apply yV;intro i;rw[sf];by_cases l:i<192
 .obtain⟨a,j,e,c,rfl⟩:∃a j,a<4/\j<48/\i=a*48+j:=⟨i / 48,i%48,by omega,by omega,by omega⟩;rw[uh _ a j e c,xw];have b:((encF f).toList.take (k*48)).length=k*48:=by rw[Ni,ye,vX];omega
  have d:(encT mR 0).toList.length=48:=by rw[ye,sf]
  by_cases h:a<k
  .rw[zR,zV (by omega),zI,ze (by omega),zK,uh f a j e c];unfold nu delT;simp only[zb (by omega:¬a=k)]
  .by_cases g:a=k
   .subst g;rw[zR,zx (by omega),zV (by omega),b,show a*48+j-a*48=j by omega,zK,mu mR 0 j c];unfold nu delT mR;simp only[Mt]
   .rw[zx (by rw[zl];omega),zl,b,d,yy,show k*48+48+(a*48+j-(k*48+48))=a*48+j by omega,zK,uh f a j e c];unfold nu delT;simp only[zb g]
 .rw[zY (by simp[vX,sf];omega),zY (by rw[vX];omega)]
theorem CR (f) (k) (I:1<=k) (E:k<4) (A X T0) (F:Hid (A=encF f)) (G:Hid (X=encF (delT f k))) (D:Hid (T0=encT mR 0)) (H:Hid (uB f k=true)) (w):
 Calls prog 52 #[.agg A,(k:Int)] w (κ w (.tuple #[.agg X,()])):=by
 have x:(k:Int)<4:=by omega
 have B:0<=(k:Int):=by omega
 have y:decide ((k:Int)<1)=false:=zJ (by omega);have g:Hid (A.size=192):=by rw[F.o];exact vX f
 have a:Hid (X.size=192):=by rw[G.o];exact vX _
 have v:Hid (X.all (·.oneCell')=true):=by rw[G.o];exact pS _
 have c:Hid (T0.size=48):=by rw[D.o];exact sf _ _
 have u:Hid (T0.all (·.oneCell')=true):=by rw[D.o];exact fV _ _
 have r:Hid (∀w,(zeroValue 83).run prog w=.ok (.agg T0) w):=by rw[D.o];exact treeZ
 obtain⟨h,i⟩:=zA (encF mR);have C:Hid (∀w,(zeroValue 85).run prog w=.ok (.agg h) w):=by rw[i.o];exact forZ
 have p:Hid (h.size=192):=by rw[i.o];exact vX _
 have n:Hid ((A.toList.take (k*48)++T0.toList++A.toList.drop (k*48+T0.size)).toArray=X):=by rw[F.o,D.o,G.o];exact Hk f k E
 have q:Hid (∀(W),Calls prog 47 #[.agg A,k] W (κ W (.bool true))):=λW=>by rw[F.o,<-H.o];exact RG f k W E
 go_enter func52,ntmps52
 go_wp2_with (first
  | (refine uo rfl 85 rfl h C.o ?_)
  | (refine ZO (by kernel_rfl) 85 (.tmp 2) rfl w rfl 85 A (0,0) _ (wW w _ _) forT rfl (by rw[g.o];exact forI) ?_))
 refine (q.o _).mono ?_;rintro e l ⟨rfl,b⟩;have j:Hid (l.heap[w.heap.size]?=some (.cells A 85)):=xV b (wW w _ _);have s:=za (xV b (wh w _ _));have m:=zi ((zB.alloc zL _).alloc (by simp) _) b;clear b;have t:Hid ((l.setRow w X).heap[w.heap.size]?=some (.cells X 85)):=ya _ _ _ _ _ _ j.o;have d:Hid ((l.setRow w X).heap[w.heap.size+1]?=some (.cells h 85)):=rF s.o _ _ (by omega);have z:=r.o;go_wp2_with (first
  | (refine rT rfl 83 (.tmp 17) (.tmp 16) rfl w (k*48) T0 rfl rfl 85 A X j.o (by rw[c.o];exact Od) (by rw[c.o,g.o];omega) u.o n.o ?_)
  | (refine yI rfl 85 (.tmp 2) rfl w rfl 85 X (0,0) _ t.o forT rfl (by rw[a.o];exact forI) ?_)
  | (refine Nl rfl 85 (.tmp 4) (.tmp 18) rfl (w.heap.size+1) X rfl rfl 85 h d.o (by rw[a.o];exact forI) (by rw[p.o,a.o]) v.o ?_))
 refine yE (kQ rfl _ _ (w.heap.size+1) 85 X (0,0) _ (.int .i64 0) rfl rfl (ya _ _ _ _ _ _ d.o) forT rfl (by rw[a.o];exact forI)) rfl ⟨rfl,?_⟩;exact xd (xd m zL _) (by omega) _
theorem DQ (f) (k) (a:1<=k) (b:k<4) (c:uB f k=true) (w):
 Calls prog 52 #[.agg (encF f),(k:Int)] w (κ w (.tuple #[.agg (encF (delT f k)),()])):=
 CR f k a b _ _ _ rfl rfl rfl c w
section
variable {P : Program}
theorem ou {ops:Array Oper} {Q:Act->Prop} {rest:List Oper} {o:Oper} {a:Act} {C:World->Prop} (hw:Region.wanted o (yielded ops a.tmps)=true) (ty) (x) (ho:o.op=.load ty x)
 (g off) (hx:a.eval x=.pointer (some ⟨g,off,none⟩)) (t) (cs A) (fr) (d) (hg:∀w,C w->w.heap[g]?=some (.cells cs t fr)) (hA:∀j,j<A.size->cs[off+j]?=A[j]?)
 (hu:P.underlying ty=some d) (hd:(match d with|.struct _|.array _ _=>true|_=>false)=true) (hi:(P.info? ty).map (·.size)=some A.size)
 (h:wpQuiet P ops C Q rest (a.put o.dst (.agg A))):wpQuiet P ops C Q (o::rest) a:=
 ur hw λ_ b=>⟨.agg A,λw hw=>by unfold Oper.quietAt execOp;simp only[ho,hx,Instr.loadAt,Instr.sureAddr,Nn,vP,yM,jo w g off t ty cs A fr d (hg w hw) hA hu hd hi];exact⟨rfl,rfl⟩,b _ h⟩
theorem kZ {ops:Array Oper} {rest:List Oper} {Q:Exit->Act->World->Prop} (c:Region.wanted o (yielded ops a.tmps)=true) (v)
 (d:∀w,(execOp a.eval o).run P w=.ok (.value v) w) (h:wpList P ops Q rest (a.put o.dst v) w):wpList P ops Q (o::rest) a w:=
 PA c λ_ b=>by unfold Oper.wp;rw[d];exact b _ _ h
theorem Vd (ty ty') (x y) (c:o.op=.binOp .neq ty x y ty') (X Y) (d:a.eval x=.agg X) (e:a.eval y=.agg Y) (b)
 (f:∀w,(Op.equalIn 10000 ty (.agg X) (.agg Y)).run P w=.ok b w) (g:P.eqGuardType P.depth ty=false) (w):(execOp a.eval o).run P w=.ok (.value (.bool (!b))) w:=by
 unfold execOp;simp[c,d,e,Nn,run_eqGuard_agg (P:=P) w _ ty x y X Y g,run_neq_struct,f]
end
theorem Er (f) (n):sV f 4 n=((uB f 0&&f.hs 0 n)||(uB f 1&&f.hs 1 n)||(uB f 2&&f.hs 2 n)||(uB f 3&&f.hs 3 n)):=by simp only[sV];cases uB f 0<;>cases uB f 1<;>cases uB f 2<;>cases uB f 3<;>simp[join,emp]
theorem jx (f) (n):uF f 4 n=((uB f 1&&f.hs 1 n)||(uB f 2&&f.hs 2 n)||(uB f 3&&f.hs 3 n)):=by simp only[uF];cases uB f 1<;>cases uB f 2<;>cases uB f 3<;>simp[join,emp]
theorem ja (f) (k a):uB (putT f k) a=if a=k then uB f 0 else uB f a:=by unfold uB putT;simp only;split<;>rfl
theorem Pl (s t):NK (enc s) (enc t) 0 32:=λj a=>⟨.u8,_,_,by rw[yF];exact Nx s j a,by rw[yF];exact Nx t j a⟩
theorem lT (s) (w):(Op.equalIn 10000 81 (.agg (enc s)) (.agg (enc s))).run prog w=.ok true w:=by rw[Ca (len:=32) (n:=1) setT byteI (Zc byteT) _ _ w (Pl s s),(lR (tO s) (tO s) (Pl s s)).2 rfl]
def foB (bs:List Int):Fo:=⟨λk j=>bs.getD (k*16+j) 0,λk m=>(bs.getD (64+k*32+m / 8) 0).toNat.testBit (m%8)⟩
def upF (bs:List Int) (k i:Nat):Fo:=⟨λa j=>if a<k\/(a=k/\j<i) then (foB bs).nd a j else 0,λa=>if a<k then (foB bs).hs a else emp⟩
def U8s (bs:List Int):Prop:=∀x,x∈bs->0<=x/\x<=255
theorem Yt (h:U8s bs) (i):0<=bs.getD i 0/\bs.getD i 0<=255:=by
 rw[zt];cases a:bs[i]? with
 | none=>simp
 | some x=>exact h x (wQ a)
theorem O1 (h:U8s bs) (k i):(sg ((foB bs).hs k) i)=bs.getD (64+k*32+i) 0:=by
 obtain⟨d,g⟩:=Yt h (64+k*32+i);obtain⟨x,a⟩:=xP d;have e:sg ((foB bs).hs k) i=jw (λb=>x.testBit b):=rk λb j=>by
  have c:(8*i+b) / 8=i:=by omega
  have f:(8*i+b)%8=b:=by omega
  unfold foB;simp only[c,f];rw[a,yQ]
 rw[e,XQ _ (by omega),a]
theorem jR {f g:Fo} (o:∀k j,k<4->j<16->f.nd k j=g.nd k j) (p:∀k m,k<4->m<256->f.hs k m=g.hs k m):encF f=encF g:=by
 apply yV;intro i;by_cases n:i<192
 .obtain⟨a,j,c,d,rfl⟩:∃a j,a<4/\j<48/\i=a*48+j:=⟨i / 48,i%48,by omega,by omega,by omega⟩;rw[uh _ a j c d,uh _ a j c d];unfold nu;by_cases h:j<16
  .rw[ze h,ze h,o a j c h]
  .rw[zb h,zb h];have e:sg (f.hs a) (j-16)=sg (g.hs a) (j-16):=rk λb l=>p a _ c (by omega);rw[e]
 .rw[zY (by rw[vX];omega),zY (by rw[vX];omega)]
theorem upF_0 (bs):encF (upF bs 0 0)=encF mR:=jR (λk j _ _=>by simp[upF,mR]) (λk m _ _=>by simp[upF,mR])
theorem upF_4 (bs):encF (upF bs 4 0)=encF (foB bs):=jR (λk j a _=>by simp[upF,a]) (λk m a _=>by simp[upF,a])
theorem L4 (bs) (k i) (o:k<4) (m:i<16):(encF (upF bs k i)).setIfInBounds (k*48+i) (.int .i64 (bs.getD (k*16+i) 0))=encF (upF bs k (i+1)):=by
 apply yV;intro n;rw[yH];by_cases l:n<192
 .obtain⟨a,j,d,c,rfl⟩:∃a j,a<4/\j<48/\n=a*48+j:=⟨n / 48,n%48,by omega,by omega,by omega⟩;rw[uh _ a j d c,uh _ a j d c];by_cases g:k*48+i=a*48+j
  .have h:a=k:=(by omega);have f:j=i:=(by omega);subst h f;rw[ze rfl,ze (by rw[vX];omega)];unfold nu upF;simp only[ze m];rw[ze (zw ⟨trivial,by omega⟩)];rfl
  .rw[zb g];unfold nu upF;by_cases b:j<16
   .simp only[ze b];by_cases e:a<k\/a=k/\j<i
    .rw[ze e,ze (by omega)]
    .rw[zb e,zb (by omega)]
   .simp only[zb b]
 .rw[zb (by omega),zY (by rw[vX];omega),zY (by rw[vX];omega)]
theorem Cz (bs) (o:U8s bs) (p:bs.length=192) (k) (q:k<4):((encF (upF bs k 16)).toList.take (k*48+16)++u8s ((bs.drop (64+32*k)).take 32)++(encF (upF bs k 16)).toList.drop (k*48+16+(u8s ((bs.drop (64+32*k)).take 32)).length)).toArray=encF (upF bs (k+1) 0):=by
 have b:(u8s ((bs.drop (64+32*k)).take 32)).length=32:=by rw[wd,Ni,Nk,p];omega
 apply yV;intro n;rw[b];by_cases m:n<192
 .obtain⟨a,j,f,e,rfl⟩:∃a j,a<4/\j<48/\n=a*48+j:=⟨n / 48,n%48,by omega,by omega,by omega⟩;rw[uh _ a j f e,xw];have d:((encF (upF bs k 16)).toList.take (k*48+16)).length=k*48+16:=by rw[Ni,ye,vX];omega
  by_cases g:a*48+j<k*48+16
  .rw[zR,zV (by omega),zI,ze g,zK,uh _ a j f e];unfold nu upF;by_cases c:j<16
   .simp only[ze c];rw[ze (by omega),ze (by omega)]
   .simp only[zb c];rw[ze (by omega),ze (by omega)]
  .by_cases l:a*48+j<k*48+48
   .have h:a=k:=(by omega);subst h;rw[zR,zx (by omega),zV (by omega),d,show a*48+j-(a*48+16)=j-16 by omega];unfold u8s;rw[xE,zI,ze (by omega),yy];unfold nu upF;simp only[zb (show ¬j<16 by omega)];rw[ze (by omega),O1 o];rw[show 64+32*a+(j-16)=64+a*32+(j-16) by omega,zt];obtain⟨x,i⟩:∃x,bs[64+a*32+(j-16)]?=some x:=⟨_,zk (by omega)⟩;rw[i];rfl
   .rw[zx (by rw[zl];omega),zl,d,b,yy,show k*48+16+32+(a*48+j-(k*48+16+32))=a*48+j by omega,zK,uh _ a j f e];unfold nu upF;by_cases c:j<16
    .simp only[ze c];rw[zb (by omega),zb (by omega)]
    .simp only[zb c];rw[zb (by omega),zb (by omega)]
 .rw[zY (by simp[vX,b];omega),zY (by rw[vX];omega)]
theorem Ge (f:U8s bs) (g:bs.length=192):uc (foB bs)=bs:=by
 apply wV;intro n;by_cases e:n<192
 .obtain⟨x,c⟩:∃x,bs[n]?=some x:=⟨_,zk (by omega)⟩;have d:bs.getD n 0=x:=by rw[zt,c];rfl
  unfold uc;by_cases h:n<64
  .obtain⟨k,i,a,b,rfl⟩:∃k i,k<4/\i<16/\n=k*16+i:=⟨n / 16,n%16,by omega,by omega,by omega⟩;rw[zV (by rw[QR];exact h),Yz _ k i a b,c,<-d];rfl
  .obtain⟨k,i,a,b,rfl⟩:∃k i,k<4/\i<32/\n=64+k*32+i:=⟨(n-64) / 32,(n-64)%32,by omega,by omega,by omega⟩;rw[zx (by rw[QR];omega),QR,show 64+k*32+i-64=k*32+i by omega,Yy _ k i a b,O1 f,d,c]
 .rw[yW (by rw[nn];omega),yW (by omega)]
def unpF (bs:List Int):Fo×Int:=if bs.length=192/\fD (foB bs)=0 then (foB bs,0) else (mR,3)
theorem L7 (v) (bs) (w) (h:uM w v bs) (u:bs.length≠192) (x:bs.length<=1000000) (Z0) (t:Hid (Z0=encF mR)):
 Calls prog 123 #[v] w (κ w (.tuple #[.agg Z0,(3:Int)])):=by
 have _:=x;have f:Hid (∀w,(zeroValue 85).run prog w=.ok (.agg Z0) w):=by rw[t.o];exact forZ
 have a:Hid (Z0.size=192):=by rw[t.o];exact vX _
 have c:Hid (Z0.all (·.oneCell')=true):=by rw[t.o];exact pS _
 obtain⟨N,d⟩:=zA bs.length;obtain⟨q,i,l⟩:∃p i,v=.slice p N i:=by
  rw[d.o];obtain⟨_,⟨k,m,n,rfl⟩|⟨g,o,b,rfl,s⟩⟩:=h
  .exact⟨m,n,by rw[k]⟩
  .exact⟨_,b,rfl⟩
 subst l;rw[<-d.o]at x u;have j:((N:Int) != 192)=true:=by rw[tT];omega
 clear h u;have r:=f.o;go_enter func123,ntmps123;go_wp2_with (first
  | (refine uo rfl 85 rfl Z0 f.o ?_)
  | (refine Nl rfl 85 (.tmp 2) (.tmp 12) rfl w Z0 rfl rfl 85 Z0 (zO w _) (by rw[a.o];exact forI) rfl c.o ?_))
 refine yE (kQ rfl _ _ w 85 Z0 (0,0) _ (.int .i64 3) rfl rfl (ya _ _ _ _ _ _ (zO w _)) forT rfl (by rw[a.o];exact forI)) rfl ⟨rfl,?_⟩;exact xd (zB.alloc zL _) zL _
theorem XO {v:Value} (h:uM w v bs) (f:0<bs.length):∃g o c,v=.slice (some ⟨g,o,none⟩) bs.length c/\g<w.heap.size/\∀j,j<bs.length->w.cell? ⟨g,o+j,none⟩=some (.int .u8 (bs.getD j 0)):=by
 obtain⟨_,⟨e,_⟩|⟨g,o,c,rfl,d⟩⟩:=h
 .omega
 .have a:∀j,j<bs.length->w.cell? ⟨g,o+j,none⟩=some (.int .u8 (bs.getD j 0)):=λj b=>by rw[d j _ (Ch bs j b)];simp[b]
  exact⟨g,o,c,rfl,zy (a 0 f),a⟩
theorem CA (
 g o cp:Nat) (bs:List Int) (w:World) (an:g<w.heap.size) (HC:Hid (∀j,j<192->w.cell? ⟨g,o+j,none⟩=some (.int .u8 (bs.getD j 0)))) (HL:Hid (bs.length=192)) (HU:Hid (U8s bs))
 (ap:Hid (uM w (.slice (some (g,o)) 192 cp) bs)) (av:192<=cp) (Z0 X:Array Value) (c:Int) (al:Hid (Z0=encF mR)) (HX:Hid (X=encF (unpF bs).1)) (Hc:Hid (c=(unpF bs).2)):
 Calls prog 123 #[.slice (some (g,o)) 192 cp] w (κ w (.tuple #[.agg X,c])):=by
 have HZ:Hid (∀w,(zeroValue 85).run prog w=.ok (.agg Z0) w):=by rw[al.o];exact forZ
 have E:Hid (Z0.size=192):=by rw[al.o];exact vX _
 have aj:Hid (Z0.all (·.oneCell')=true):=by rw[al.o];exact pS _
 go_enter func123,ntmps123
 go_wp2_with (first
  | (refine uo rfl 85 rfl Z0 HZ.o ?_))
 go_loopw [13] (λi wr=>∃k:Nat,k<=4/\i=.int .i64 k/\Hid (wr.heap[w.heap.size]?=some (.cells Z0 85))/\Hid (wr.heap[w.heap.size+1]?=some (.cells (encF (upF bs k 0)) 85))/\Below w w wr) (λi _=>4-(intOf i).toNat)
 case atStart =>refine⟨0,by omega,rfl,wW w _ _,?_,(zB.alloc zL _).alloc (by simp) _⟩;rw[upF_0,<-al.o];exact wh w _ _
 case round=>
  obtain⟨k,hk,rfl,O,Z,M⟩:=hrel;by_cases A:k<4
  .have aw:(k:Int)<4:=(by omega);have a1:(0:Int)<=(k:Int):=(by omega);obtain⟨wo,af⟩:∃wo:World,wo=wr:=⟨_,rfl⟩;subst af;go_wp2;go_loopw [16] (λi wr=>∃j:Nat,j<=16/\i=.int .i64 j/\Hid (wr.heap[w.heap.size]?=some (.cells Z0 85))/\Hid (wr.heap[w.heap.size+1]?=some (.cells (encF (upF bs k j)) 85))/\Below w w wr) (λi _=>16-(intOf i).toNat)
   .exact⟨0,by omega,rfl,O,Z,M⟩
   .obtain⟨j,hj,rfl,J,l,t⟩:=hrel;by_cases I:j<16
    .have a3:(j:Int)<16:=(by omega);have ay:(0:Int)<=(j:Int):=(by omega);obtain⟨x,Hx⟩:=zA (bs.getD (k*16+j) 0);have N:=Yt HU.o (k*16+j);rw[<-Hx.o]at N;obtain⟨a0,ac⟩:=N;have cb:wr.cell? (g,o+(16*k+j))=some (.int .u8 x):=(by rw[t.cell (p:=⟨g,o+(16*k+j),none⟩) an,Hx.o,show 16*k+j=k*16+j by omega];exact HC.o _ (by omega));have cf:wr.cell? (w.heap.size+1,k*48+j)=some (.int .i64 0):=(by rw[zC l.o,uh _ k j A (by omega)];unfold nu upF;simp[I]);have ff:wr.frozen? (w.heap.size+1,k*48+j)=false:=zF l.o;have p1:=zW (16*(k:Int)) (by omega);have p2:=zW (16*(k:Int)+(j:Int)) (by omega);have p3:(16*(k:Int)+(j:Int)).toNat=16*k+j:=(by omega);have p4:(0:Int)<=16*(k:Int)+(j:Int):=(by omega);have p5:16*(k:Int)+(j:Int)<192:=(by omega);go_wp2
     go_still_tail 13,(by kernel_rfl)
     go_wp2;go_roundw;case rel=>
      refine⟨j+1,by omega,by go_num,(rV _ _ _ _ (by simp)).trans J.o,?_,?_⟩
      .rw[<-L4 bs k j A I,<-Hx.o];exact zT _ _ _ _ _ _ l.o
      .exact t.drew.setCell (by simp) _
     case measure=>simp[intOf];omega
    .obtain rfl:j=16:=(by omega);have p1:=zW (32*(k:Int)) (by omega);have p2:=zW (64+32*(k:Int)) (by omega);have p3:(64+32*(k:Int)).toNat=64+32*k:=(by omega);have p4:(0:Int)<=64+32*(k:Int):=(by omega);have p5:64+32*(k:Int)<=192:=(by omega);have p6:64+32*k≠cp:=(by omega);go_wp2
     go_still_tail 9,(by kernel_rfl)
     go_wp2_with fail
     have b:(u8s ((bs.drop (64+32*k)).take 32)).length=32:=(by rw[wd,Ni,Nk,HL.o];omega);have z:∀(j:Nat) (v:Value),(u8s ((bs.drop (64+32*k)).take 32))[j]?=some v->wr.drew.cell? ((⟨g,o+(64+32*k),none⟩:Addr).add j)=some v:=λj v D=>by
      have hj:=(zG.1 D).1;have L:(⟨g,o+(64+32*k),none⟩:Addr).add j=⟨g,o+(64+32*k)+j,none⟩:=(by unfold Addr.add;split<;>simp_all);rw[L,show o+(64+32*k)+j=o+(64+32*k+j) by omega];refine Eq.trans (t.cell (p:=⟨g,o+(64+32*k+j),none⟩) an) ?_;rw[HC.o _ (by omega)];unfold u8s at D;rw[xE,zI,ze (by omega),yy]at D;rw[zt];cases hq:bs[64+32*k+j]? with
      | none=>rw[hq]at D;cases D
      | some x=>rw[hq]at D;simpa using D
     rw[tR (P:=prog) wr.drew 38 38 _ 5 (w.heap.size+1) (k*48+16) 32 32 ⟨g,o+(64+32*k),none⟩ (192-(64+32*k)) (cp-(64+32*k)) (encF (upF bs k 16)) 85 (u8s ((bs.drop (64+32*k)).take 32)) Lr (by kernel_rfl) l.o (by rw[b];show 32=min _ _;omega) z (by rw[b,vX];omega) (gZ _)];rw[Cz bs HU.o HL.o k A,b];have T:Hid ((wr.drew.setRow (w.heap.size+1) (encF (upF bs (k+1) 0))).heap[w.heap.size]?=some (.cells Z0 85)):=rF (w:=wr.drew) J.o _ _ (by omega);have ad:Hid ((wr.drew.setRow (w.heap.size+1) (encF (upF bs (k+1) 0))).heap[w.heap.size+1]?=some (.cells (encF (upF bs (k+1) 0)) 85)):=ya wr.drew _ _ _ _ _ l.o;have ae:Below w w (wr.drew.setRow (w.heap.size+1) (encF (upF bs (k+1) 0))):=xd t.drew (by omega) _;clear z b p1 p2 p3 p4 p5 p6;go_wp2;go_roundw
     .exact⟨k+1,by omega,by go_num,T,ad,ae⟩
     .simp[intOf];omega
  .obtain rfl:k=4:=(by omega);obtain⟨F,d⟩:=zA (encF (foB bs));have m:Hid (wr.heap[w.heap.size+1]?=some (.cells F 85)):=(by rw[d.o,<-upF_4];exact Z.o);have f:Hid (F.size=192):=(by rw[d.o];exact vX _);have U:Hid (F.all (·.oneCell')=true):=(by rw[d.o];exact pS _);clear Z;have hz:=HZ.o;by_cases G:fD (foB bs)=0
   .have B:unpF bs=(foB bs,0):=(by unfold unpF;rw[ze ⟨HL.o,G⟩]);have eX:F=X:=(by rw[HX.o,B,d.o]);have Y:c=0:=(by rw[Hc.o,B]);have C:Hid (∀W:World,Calls prog 88 #[.agg F] W (N8 (foB bs) W)):=λW=>(by rw[d.o];exact QZ _ G W);subst eX Y;clear B G;go_wp2_with (refine yI rfl 85 (.tmp 4) rfl (w.heap.size+1) rfl 85 F (0,0) _ m.o forT rfl (by rw[f.o];exact forI) ?_)
    refine (C.o _).mono ?_;rintro e H ⟨u,rfl,y,a⟩;have aa:Hid (uM H u bs):=(by have:=uq.of_owns y;rw[Ge HU.o HL.o]at this;rw[<-HL.o]at this;exact this);have Q:Hid (H.heap[w.heap.size+1]?=some (.cells F 85)):=xV a m.o;have n:Hid (H.heap[w.heap.size]?=some (.cells Z0 85)):=xV a O.o;have q:=zi M a;have ah:Hid (uM H (.slice (some (g,o)) 192 cp) bs):=uq.below ap.o q;clear y a m O M;go_wp2_with fail
    refine (PW _ _ _ _ _ aa.o ah.o rfl (by rw[HL.o];omega)).mono ?_;have ab:Hid (RT bs bs=true):=(by show _=_;unfold RT;simp);rw[ab.o];rintro e w3 ⟨rfl,s⟩;have ai:Hid (w3.heap[w.heap.size+1]?=some (.cells F 85)):=xV s Q.o;have K:Hid (w3.heap[w.heap.size]?=some (.cells Z0 85)):=xV s n.o;have V:=zi q s;clear s Q n q;go_wp2_with (first
     | (refine yI rfl 85 (.tmp 4) rfl (w.heap.size+1) rfl 85 F (0,0) _ ai.o forT rfl (by rw[f.o];exact forI) ?_)
     | (refine Nl rfl 85 (.tmp 2) (.tmp 58) rfl w F rfl rfl 85 Z0 K.o (by rw[f.o];exact forI) (by rw[f.o,E.o]) U.o ?_))
    refine yE (kQ rfl _ _ w 85 F (0,0) _ (.int .i64 0) rfl rfl (ya _ _ _ _ _ _ K.o) forT rfl (by rw[f.o];exact forI)) rfl ⟨rfl,?_⟩;exact xd V zL _
   .have B:unpF bs=(mR,3):=(by unfold unpF;rw[zb λh=>G h.2]);have eX:Z0=X:=(by rw[HX.o,B,al.o]);have Y:c=3:=(by rw[Hc.o,B]);obtain⟨r,S⟩:=zA (fD (foB bs));have ax:(r==0)=false:=(by rw[S.o];simpa using G);have R:(r != 0)=true:=(by rw[S.o];simpa using G);have C:Hid (∀W:World,Calls prog 88 #[.agg F] W (κ W (.tuple #[.slice none 0 0,r]))):=λW=>ES _ F r d S R W;subst eX Y;clear B G;go_wp2_with (refine yI rfl 85 (.tmp 4) rfl (w.heap.size+1) rfl 85 F (0,0) _ m.o forT rfl (by rw[f.o];exact forI) ?_)
    refine (C.o _).mono ?_;rintro e H ⟨rfl,a⟩;have n:Hid (H.heap[w.heap.size]?=some (.cells Z0 85)):=xV a O.o;have q:=zi M a;clear a m O M;go_wp2_with (first
     | (refine Nl rfl 85 (.tmp 2) (.tmp 57) rfl w Z0 rfl rfl 85 Z0 n.o (by rw[E.o];exact forI) rfl aj.o ?_))
    refine yE (kQ rfl _ _ w 85 Z0 (0,0) _ (.int .i64 3) rfl rfl (ya _ _ _ _ _ _ n.o) forT rfl (by rw[E.o];exact forI)) rfl ⟨rfl,?_⟩;exact xd q zL _
def LF (v:Value) (n:Nat):Prop:=∀p l c,v=.slice p l c->n<=c
theorem L8 (v) (bs) (w) (h:uM w v bs) (j:U8s bs) (k:LF v bs.length) (l:bs.length<=1000000):
 Calls prog 123 #[v] w (κ w (.tuple #[.agg (encF (unpF bs).1),.int .i64 (unpF bs).2])):=by
 by_cases b:bs.length=192
 .obtain⟨g,o,c,rfl,i,d⟩:=XO h (by omega);have a:=k _ _ _ rfl;rw[b]at h d a |-;exact CA g o c bs w i d b j h a _ _ _ rfl rfl rfl
 .have f:unpF bs=(mR,3):=by unfold unpF;rw[zb λh=>b h.1]
  rw[f];exact L7 v bs w h b l _ rfl
