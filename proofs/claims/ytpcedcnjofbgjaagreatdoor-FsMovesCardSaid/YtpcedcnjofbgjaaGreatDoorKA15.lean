import Derived.Test.YtpcedcnjofbgjaaGreatDoorKA8
import Derived.Test.YtpcedcnjofbgjaaGreatDoorKA10
import Derived.Maps.Own
set_option maxHeartbeats 0
set_option linter.all false
set_option maxRecDepth 100000
namespace Go.Proofs.YtpcedcnjofbgjaaGreatDoor
open Go.Proofs.Tryz Go.RowKit Go.Sort Go.Shelf
abbrev Js:=Fin 256×Option Addr×Nat×Nat
def encS (x:Js):List Value:=[.int .i64 (x.1.val),.slice x.2.1 x.2.2.1 x.2.2.2]
def cfS (x y:Js):Int:=(x.1.val)-(y.1.val)
theorem fW (x):(encS x).length=2:=rfl
theorem Fg (x):∀v∈encS x,v.oneCell'=true:=by intro v a;simp[encS]at a;rcases a with rfl|rfl<;>rfl
theorem LD: SWO (ltOf cfS) where
 irrefl x:=by unfold ltOf cfS;simp
 trans x y z h1 h2:=by unfold ltOf cfS at *;simp at *;omega
 ntrans x y z h1 h2:=by unfold ltOf cfS at *;simp at *;omega
theorem Ft (x y) (W):
 Calls prog 121 #[.agg (encS x).toArray,.agg (encS y).toArray] W <|ρ (cfS x y:Int) λw'=>∃q os',w'=grow (W.drewN q) os':=by
 unfold cfS encS;obtain⟨⟨a,m⟩,l,k,i⟩:=x;obtain⟨⟨b,h⟩,j,g,f⟩:=y;have d:=zW (a-b) (by omega);have c:¬W.heap.size=W.heap.size+1:=by omega
 go_enter func121,ntmps121
 go_wp2;go_ret;exact⟨rfl,0,_,by rw[alloc_eq_grow,alloc_eq_grow,grow_grow];rfl⟩
def SortS (base:Nat) (v:Value) (O:List Js) (W:World) (e:Ending) (w':World):Prop:=e=.returned (.tuple #[])/\∃T:List Js,T.Perm O/\T.Pairwise (λa b=>a.1.val<=b.1.val)/\w'.ownsRow base 182 2 v O.length (T.flatMap encS)/\W.grownBy w' v.ownBlock
theorem Cx: ∀(args) (w),(callFunc 121 args).run prog w=.ok (.enter 121 args) w:=enters_of func121 (by kernel_rfl) rfl
theorem Ev (base) (v) (O) (W) (V:W.ownsRow base 182 2 v O.length (O.flatMap encS)) (X:O.length<=1000000):
 Calls prog 120 #[v,.func (.func 121) #[] #[]] W (SortS base v O W):=by
 have d:=V;obtain⟨T,⟨rfl,P⟩|⟨g,f,t,rfl,J,c,F,Q,D,I⟩⟩:=V
 .have K:=yz.1 P;refine (tb li none 0 (.func (.func 121) #[] #[]) W).mono λe H ⟨w,B⟩=>⟨w,O,NW _,?_,?_,?_⟩
  .rw[K];exact List.Pairwise.nil
  .rw[B];exact d
  .rw[B];exact⟨rfl,rfl,rfl,zL,λ_ _ _=>rfl⟩
 .have a:O.toArray.size=O.length:=by simp
  have M:=mC fW c (by rw[a];exact I);have o:CmpLays prog 121 #[] encS 2 cfS g 0 O.toArray.size W:=λm os U _ x y=>Ft x y _;have h:=sS li 2 isAgg182 sizeOf182 encS fW Fg cfS LD 121 #[] g 0 f O.toArray W Cx o M (xB c) (by rw[a];omega);rw[a]at h;refine h.mono ?_;rintro e H ⟨w,b,n,os,C,z,rfl⟩;have q:b.size=O.length:=by rw[C.1,a]
  have l:b.toList.length=O.length:=by simpa using q
  have u:b.size*2<=t.size:=by rw[q,D];exact sM _ F
  obtain⟨p,G,R,A⟩:=gQ (enc:=encS) (k:=2) fW (m:=n) (os:=os) c u;refine⟨w,b.toList,?_,?_,?_,Zq⟩
  .have:=C.2.2;have S:(b.extract 0 O.length).toList=b.toList:=(by rw[<-q];simp);have L:(O.toArray.extract 0 O.length).toList=O:=(by simp);rw[S,L]at this;exact this
  .rw[wy];intro i j N E r;rw[l]at N E;have s:=z i j zZ r E;rw[vD b i (by omega),vD b j (by omega)]at s;unfold ltOf cfS at s;simp at s;rw[vq,vq];omega
  .refine⟨by rw[Tu fW,l],zw ⟨g,f,p,rfl,J,G,F,Q,by rw[R];exact D,?_⟩⟩;rw[q]at A;exact A
theorem Iq (h):SWO (ltOf (cfK h)) where
 irrefl x:=by unfold ltOf cfK;simp
 trans x y z h1 h2:=by unfold ltOf cfK at *;simp at *;omega
 ntrans x y z h1 h2:=by unfold ltOf cfK at *;simp at *;omega
theorem Kx: TN:=by
 intro t h G v O W V d a hl;have o:=d;obtain⟨h0,⟨rfl,hn⟩|⟨g,p,C,rfl,R,c,M,hm,K,Q⟩⟩:=d
 .have T:=yz.1 hn;refine (tb lj none 0 (.func (.func 220) #[] #[(t,())]) W).mono λe P ⟨E,I⟩=>⟨E,O,NW _,?_,?_,?_⟩
  .rw[T];exact List.Pairwise.nil
  .rw[I];exact o
  .rw[I];exact⟨rfl,rfl,rfl,zL,λ_ _ _=>rfl⟩
 .have b:O.toArray.size=O.length:=by simp
  have X:=mC SM c (by rw[b];simpa using Q);have z:=ve a c (by decide);have r:CmpLays prog 220 #[(t,())] encK 3 (cfK h) g 0 O.toArray.size W:=λm os Y _ x y=>Ir t h V x y _ (by rw[cell?_sortWorldK_other encK 3 W g 0 m Y os ⟨t,0,none⟩ z (xB a)];exact zC a);have S:∀args w,(callFunc 220 args).run prog w=.ok (.enter 220 args) w:=enters_of func220 (by kernel_rfl) rfl;have q:=sS lj 3 isAgg184 sizeOf184 encK SM Fh (cfK h) (Iq h) 220 #[(t,())] g 0 p O.toArray W S r X (xB c) (by rw[b];omega);rw[b]at q;refine q.mono ?_;rintro e P ⟨E,f,n,os,J,F,rfl⟩;have u:f.size=O.length:=by rw[J.1,b]
  have l:f.toList.length=O.length:=by simpa using u
  have D:f.size*3<=C.size:=by rw[u,K];exact sM _ M
  obtain⟨s,N,k2,H⟩:=gQ (enc:=encK) (k:=3) SM (m:=n) (os:=os) c D;refine⟨E,f.toList,?_,?_,?_,Zq⟩
  .have:=J.2.2;have e1:(f.extract 0 O.length).toList=f.toList:=(by rw[<-u];simp);have U:(O.toArray.extract 0 O.length).toList=O:=(by simp);rw[e1,U]at this;exact this
  .rw[wy];intro i j Z L A;rw[l]at Z L;have B:=F i j zZ A L;rw[vD f i (by omega),vD f j (by omega)]at B;unfold ltOf cfK at B;simp at B;rw[vq,vq];omega
  .rw[l];refine⟨by rw[Tu SM,l],zw ⟨g,p,s,rfl,R,N,M,hm,by rw[k2];exact K,?_⟩⟩;rw[u]at H;exact H
end Go.Proofs.YtpcedcnjofbgjaaGreatDoor
namespace Go.Proofs.YtpcedcnjofbgjaaGreatDoor
open Go.Proofs.Tryz Go.RowKit
variable {F:Nat->Prop} {a:Addr} {base gl k kd:Nat} {d:Value} {sq:Int} {st:Dk} {w w3 wr:World} {x:Rq}
theorem EZ (v) (E) (h:Nat) (a:h<256) (w) (b:Oa w v E) (c:∀x∈E,RqOk w x) (d:E.length<=100):
 Calls prog 158 #[v,h] w (TP (E.map rab) h w):=KF Kx v E h a w b c d
theorem kL {B:Nat} {a:World} (h:Below B a w) (n):Below B a (w.drewN n):=⟨h.os,h.tape,h.output,h.size,h.block⟩
theorem uT.drewN (h:uT w d st k F) (n):uT (w.drewN n) d st k F:=h.keep (G:=λ_=>False) ⟨rfl,rfl,rfl,zL,λ_ _ _=>rfl⟩ (λ_ _ h=>h)
theorem rb_of (h:RqOk w x) (f:x.b=false->x.n<k):RbOk k (rab x):=by
 rcases h with⟨a,_⟩|⟨a,d,e,c⟩
 .exact zu a
 .exact zw ⟨f a,c⟩
theorem Gk (a:k<=256) {l:List Rb} (b:∀x∈l,RbOk k x):∀x∈Ob l 0,RbOk k x:=(Ex a l 0 (by omega) (qD k) (GY k) b).2
theorem Did.start {w':World} (h:uT w d st k F) (a:Below w w w'):Did d st k F w' w':=⟨F,h.below a,λ_ h=>zu h,yK.refl _ _⟩
theorem Jg (h:SA w3 base x) (j:x.b=false) (k:yK F w3 wr) (l:∀i,F i->i<base):∃gx cx cur,x.v=.slice (some ⟨gx,0,none⟩) 64 cx/\base<=gx/\gx<w3.heap.size/\x.D.length=64/\wr.heap[gx]?=some (.cells cur 5)/\cur.toList.take 64=u8s x.D:=by
 rcases h with⟨f,_⟩|⟨_,_,g,gx,cx,cur,d,c,a,e⟩
 .rw[j]at f;cases f
 .exact⟨gx,cx,cur,d,c.1,xB a,g,(k.block gx (xB a) (λh=>by have:=l gx h;have:=c.1;omega)).trans a,e⟩
theorem Jf (h:uT w a st k F) (v) (E) (hv:Oa w v E) (hE:∀x∈E,RqOk w x) (hk:∀x∈E,x.b=false->x.n<k) (a2:k<=256) (hl:E.length<=100) (hW:st.W.length<900000):
 Calls prog 119 #[a,v] w <|ρ () λw'=>Did a (runE st (Ob (E.map rab) 0)) k F w w':=by
 have HD:=za h;have aO:=za h.fin;have HE:=za hE;have HK:=za hk;have U:=za (λW (hW:Below w w W)=>EZ v E 0 (by omega) W (hv.below hW) (λx hx=>(hE x hx).below hW) hl);unfold TP at U;have aG:=za (Gk a2 λx hx=>by obtain⟨y,hy,rfl⟩:=yd.1 hx;exact rb_of (hE y hy) (hk y hy));have ao:(Ob (E.map rab) 0).length<=E.length:=by have:=Q5 (E.map rab) 0 (by omega);rw[yD]at this;exact this
 obtain⟨p,cp,rfl,HP⟩:=iN hv.row;obtain⟨N,HN⟩:=zD E.length;rw[HN.o]at hl HP U ao;rw[HN.o];generalize Ob (E.map rab) 0=O at *
 clear hv hE hk h;go_enter func119,ntmps119;go_wp2;go_loopw [14] (λi wr=>∃j:Nat,j<=N/\i=.int .i64 j/\Below w w wr) (λi _=>N-(intOf i).toNat)
 .exact⟨0,yh _,rfl,zB⟩
 .obtain⟨j,hj,rfl,C⟩:=hrel;by_cases G:j<N
  .obtain⟨g,o,rfl,z,t⟩:=HP.o (by omega);have m:j<E.length:=(by rw[HN.o];exact G);obtain⟨e0,e1,e2⟩:=fv E j m;obtain⟨px,lx,Q,a7,_,aQ⟩:=(HE.o E[j] (Nj m)).shape;rw[a7]at e1;have c0:=(C.cell (p:=⟨g,o+j*3,none⟩) z).trans (t _ _ e0);have c1:=(C.cell (p:=⟨g,o+(j*3+1),none⟩) z).trans (t _ _ e1);have c2:=(C.cell (p:=⟨g,o+(j*3+2),none⟩) z).trans (t _ _ e2);rw[<-yp]at c1 c2;have f:=HK.o E[j] (Nj m);obtain⟨r,A⟩:=zD (E[j].n);obtain⟨xb,d⟩:=zD (E[j].b);rw[A.o]at c0 aQ f;rw[d.o]at c2 f;have a9:j<(N:Int):=(by omega);have aM:=zr z C.size;have aJ:¬g=wr.heap.size:=(by omega);have P:Hid (Below w w (wr.alloc (.cells #[r,(px,lx,Q),.bool xb] 184))):=C.alloc C.size _;have aT:Hid (∀n,Calls prog 77 #[a] ((wr.alloc (.cells #[r,(px,lx,Q),.bool xb] 184)).drewN n) <|ρ k λw'=>w'=(wr.alloc (.cells #[r,(px,lx,Q),.bool xb] 184)).drewN n):=λn=>(jm ((HD.o.below P.o).drewN n)).mono λe w' h=>⟨h.1,h.2.symm⟩;clear t e0 e1 e2 a7;cases xb with
   | true=>
    clear f;go_wp2
    go_quiet (fail)
    go_wp2;go_roundw
    .exact⟨j+1,by omega,by go_num,kL P.o _⟩
    .simp[intOf];omega
   | false=>
    have ba:=f rfl;have b1:decide ((r:Int)<0)=false:=(by rw[zz];omega);have b2:decide (k<=(r:Int))=false:=(by rw[zz];omega);have b3:¬k<=(r:Int):=(by omega);have b4:¬k<=r:=(by omega);clear f;go_wp2
    go_quiet ((go_at_call 77;exact xA (aT.o _)))
    go_wp2;go_roundw
    .exact⟨j+1,by omega,by go_num,kL P.o _⟩
    .simp[intOf];omega
  .go_wp2_with fail
   refine (U.o _ C).mono ?_;rintro e V ⟨v3,rfl,a6,aw⟩;have az:=za (zi C aw);have aX:Hid (Did a (runE st (O.take 0)) k F V V):=Did.start HD.o az.o;have a5:=C.size;obtain⟨B,am⟩:∃B,wr.heap.size=B:=⟨_,rfl⟩;rw[am]at a5 a6;have aq:∀i,F i->i<B:=λi hi=>zr (aO.o i hi) a5;obtain⟨c,J,Y,a1⟩:=a6;have K:=Ve J;obtain⟨q,bf,rfl,hq⟩:=rU Y;obtain⟨L,HL⟩:=zD c.length;have HQ:Hid (0<L->∃g,q=some ⟨g,0,none⟩/\g<V.heap.size/\B<=g/\∀(j) (x),(rS c)[j]?=some x->V.cell? ⟨g,j,none⟩=some x):=λh0=>(by obtain⟨g,rfl,z,t⟩:=hq (by rw[HL.o];exact h0);exact⟨g,rfl,(Y.lt g rfl).2,z,t⟩);rw[HL.o];rw[HL.o]at K;have aL:L<=100:=(by omega);have aR:=za J;have aP:=za a1;have aa:=za aq;have ai:=za K;have aH:=za hW;clear J Y a1 hq aw aq K ao am C;go_wp2;go_loopw [44] (λi wq=>∃j:Nat,j<=L/\i=.int .i64 j/\Hid (Did a (runE st (O.take j)) k F V wq)) (λi _=>L-(intOf i).toNat)
   .exact⟨0,yh _,rfl,aX⟩
   .obtain⟨j,hj,rfl,HR⟩:=hrel;by_cases G:j<L
    .obtain⟨g,rfl,z,bn,t⟩:=HQ.o (by omega);have m:j<c.length:=(by rw[HL.o];exact G);have ae:j<O.length:=(by rw[<-ai.o];exact G);obtain⟨F',ap,ar,s⟩:=HR.o;obtain⟨e0,e1,e2⟩:=fv c j m;have T:¬F g:=λh=>(by have:=aa.o g h;omega);have c0:=(s.cell z T).trans (t _ _ e0);have c2:=(s.cell z T).trans (t _ _ e2);have c1:=(s.cell z T).trans (t _ _ e1);have ac:rab c[j]=O[j]:=(by have h1:(c.map rab)[j]?=O[j]? :=(by rw[aR.o]);rw[xE,zk m,zk ae]at h1;simpa using h1);have ab:=aG.o O[j] (Nj ae);rw[<-ac]at ab;have ak:Hid (runE st (O.take (j+1))=doE (runE st (O.take j)) (rab c[j])):=(by show _=_;rw[<-zU ae,Qf,ac]);have a0:=aP.o c[j] (Nj m);have aM:=zr z s.size;have aJ:¬g=wr.heap.size:=(by omega);have a9:j<(L:Int):=(by omega);have a4:(runE st (O.take j)).W.length<1000000:=(by have h1:=Qg st (O.take j);have h2:=List.length_take_le j O;have h3:=aH.o;omega);have ax:=za a0;have aI:=za ab;have av:=za ap;have R:=za ar;have S:=za s;have aU:=za a4;clear t e0 e1 e2 ac a0 ap ar s ab HR a4;obtain⟨xb,d⟩:=zD (c[j].b);obtain⟨r,A⟩:=zD (c[j].n);rw[d.o]at c2;rw[A.o]at c0;cases xb with
     | true=>
      have an:c[j].v=.slice none 0 0:=by
       rcases ax.o with⟨_,_,h,_⟩|⟨h,_⟩
       .exact h
       .rw[d.o]at h;cases h
      rw[an]at c1;have M:=za (av.o.below (zB.alloc zL (.cells #[r,.slice none 0 0,.bool true] 184)));have X:Hid (doE (runE st (O.take j)) (rab c[j])=RH (runE st (O.take j))):=(by show _=_;unfold doE;rw[ze (show (rab c[j]).2.2=true from d.o)]);clear an;go_wp2_with fail
      refine (Tt M.o).mono ?_;rintro e wq ⟨rfl,l⟩;have Z:Hid (Did a (runE st (O.take (j+1))) k F V wq):=(by show Did _ _ _ _ _ _;rw[ak.o,X.o];exact oM (S.o.step (yK.alloc _)) R.o l);clear l;go_wp2;go_roundw
      .exact⟨j+1,by omega,by go_num,Z⟩
      .simp[intOf];omega
     | false=>
      obtain⟨I,Q,be,a3,au,al,u,ad,aj⟩:=Jg ax.o d.o S.o aa.o;rw[a3]at c1;have f:r<k:=by
       rcases aI.o with h|⟨h,_⟩
       .rw[show (rab c[j]).2.2=c[j].b from rfl,d.o]at h;cases h
       .rw[<-A.o];exact h
      have H:¬F' I:=λh=>by
       rcases R.o I h with h|h
       .have:=aa.o I h;omega
       .omega
      have a8:I<(wr.alloc (.cells #[r,.slice (some ⟨I,0,none⟩) 64 Q,.bool false] 184)).heap.size:=(by have:=xB ad;simp;omega);have M:=za (av.o.below (zB.alloc zL (.cells #[r,.slice (some ⟨I,0,none⟩) 64 Q,.bool false] 184)));have aE:=za (Zz M.o r f (.slice (some ⟨I,0,none⟩) 64 Q) c[j].D u (λw' hk=>rH u ((hk.block I a8 H).trans (un ad _)) aj) aU.o);have X:Hid (doE (runE st (O.take j)) (rab c[j])=pV (runE st (O.take j)) r c[j].D):=(by show _=_;unfold doE;rw[zb (by rw[show (rab c[j]).2.2=c[j].b from rfl,d.o];simp),<-A.o];rfl);clear a3 au al u ad aj f H a8;go_wp2_with fail
      refine aE.o.mono ?_;rintro e wq ⟨rfl,l⟩;have Z:Hid (Did a (runE st (O.take (j+1))) k F V wq):=(by show Did _ _ _ _ _ _;rw[ak.o,X.o];exact oM (S.o.step (yK.alloc _)) R.o l);clear l;go_wp2;go_roundw
      .exact⟨j+1,by omega,by go_num,Z⟩
      .simp[intOf];omega
    .have HT:Hid (O.take j=O):=zo (by rw[<-ai.o];omega);rw[HT.o]at HR;go_wp2;go_ret;exact⟨rfl,oM (yK.of_below az.o) (λ_ h=>zu h) HR.o⟩
def okO (N:List Int):Bool:=Pb N&&iJ N
def seqO (N:List Int):Int:=if Pb N=true then fj N else 0
def iT (N:List Int):List Wr:=if okO N=true then mz N (O8 N) else []
def Qp (st:Dk):Dk:=runE st (emit (iT st.N))
def lM (kd:Nat) (x:Wr):Prop:=x.1<kd/\(x.1<5\/37<=x.1)
def logC (a:Addr) (sq:Int):Array Value:=#[a,.int .i64 5,.int .i64 32,.int .u32 sq]
def WW (kd:Nat) (a:Addr) (st:Dk) (sq:Int) (F:Nat->Prop) (gl:Nat) (w w':World):Prop:=
 ∃F',uT w' a st kd F'/\(∀i,F' i->F i\/w.heap.size<=i)/\¬F' gl/\yK F w w'/\w'.heap[gl]?=some (.cells (logC a sq) 178)
theorem nN (P) (x):emit (P++[x])=emit P++[(x.1,x.2,false)]:=by unfold emit;rw[yo];rfl
theorem mh (st) (n) (D):doE st (n,D,false)=pV st n D:=by unfold doE;rw[zb (by simp)]
theorem Of (st) (P) (x):runE st (emit (P++[x]))=pV (runE st (emit P)) x.1 x.2:=by rw[nN,Qf,mh]
theorem JR {x:Jw} (h:gG w3 base x) (e:yK F w3 wr) (f:∀i,F i->i<base):∃gx cx cur,x.v=.slice (some ⟨gx,0,none⟩) 64 cx/\base<=gx/\gx<w3.heap.size/\wr.heap[gx]?=some (.cells cur 5)/\cur.toList.take 64=u8s x.D:=by obtain⟨_,_,gx,cx,cur,c,b,a,d⟩:=h;exact⟨gx,cx,cur,c,b.1,xB a,(e.block gx (xB a) (λh=>by have:=f gx h;have:=b.1;omega)).trans a,d⟩
theorem Jx (an:64<=kd) (ao:kd<=256) (h:uT w a st kd F) (hN:qC st.N) (hg:∀x∈iT st.N,lM kd x) (hW:st.W.length<900000):
 Calls prog 80 #[a,(5:Int),(32:Int)] w λe w'=>∃gl,e=.returned (.tuple #[.pointer (some ⟨gl,0,none⟩),()])/\w.heap.size<=gl/\WW kd a (Qp st) (seqO st.N) F gl w w':=by
 have HD:=za h;have ag:=za h.fin;have aq:=za (I6 an ao h hN);have av:=za hg;have a5:=za hW;clear h hN hg hW;go_enter func80,ntmps80;go_wp2_with fail
 refine aq.o.mono ?_;intro e l P;unfold j7 at P;have y:∀(l) (sq),Below w w l->okO st.N=false->seqO st.N=sq->WW kd a (Qp st) (seqO st.N) F l w (l.alloc (.cells (logC a sq) 178)):=λl sq f G a8=>by
  have e:Qp st=st:=by unfold Qp iT;rw[G,zb (by simp)];rfl
  rw[e,a8];refine⟨F,(HD.o.below f).below (zB.alloc zL _),λ_ h=>zu h,λh=>?_,(yK.of_below f).step (yK.alloc _),zH⟩;have h1:=ag.o _ h;have h2:=f.size;omega
 rcases P with⟨t,rfl,f⟩|⟨t,s2,rfl,f⟩|⟨t,s2,v,E,rfl,hE,hJ,f⟩
 .have A:=za (y l 0 f (by unfold okO;rw[t];rfl) (by unfold seqO;rw[zb (by rw[t];simp)]));have u:=za f;clear y f t;go_wp2;go_ret2;exact⟨_,rfl,u.o.size,A.o⟩
 .have A:=za (y l (fj st.N) f (by unfold okO;rw[s2];simp) (by unfold seqO;rw[ze t]));have u:=za f;clear y f t s2;go_wp2;go_ret2;exact⟨_,rfl,u.o.size,A.o⟩
 .have G:okO st.N=true:=by unfold okO;rw[t,s2];rfl
  have R:Hid (iT st.N=E.map jab):=by show _=_;unfold iT;rw[ze G,hE]
  have aF:Hid (seqO st.N=fj st.N):=by show _=_;unfold seqO;rw[ze t]
  have aE:Hid (Qp st=runE st (emit (E.map jab))):=by show _=_;unfold Qp;rw[R.o]
  have ah:Hid (∀x∈E,lM kd (jab x)):=λx hx=>av.o _ (by rw[R.o];exact yd.2 ⟨x,hx,rfl⟩);have aH:E.length<=30:=by have h1:=zQ List.length hE;rw[yD,Qa]at h1;unfold Pb at t;simp only[yS,xe]at t;omega
  obtain⟨p,cp,rfl,HP⟩:=SV (uq.of_owns hJ.1);obtain⟨N,C⟩:=zD E.length;rw[C.o]at HP aH;rw[C.o];have ae:=za hJ.2;have aj:=za hJ.1;have B:=za f;generalize fj st.N=sq at *
  clear hJ f hE t s2 G y aq av R;go_wp2;go_loopw [31] (λi wr=>∃k:Nat,k<=N/\i=.int .i64 k/\Hid (Below l l wr)) (λi _=>N-(intOf i).toNat)
  .exact⟨0,yh _,rfl,zB⟩
  .obtain⟨k,hk,rfl,u⟩:=hrel;by_cases H:k<N
   .obtain⟨g,o,rfl,hg,X⟩:=HP.o (by omega);have d:k<E.length:=(by rw[C.o];exact H);obtain⟨I,M⟩:=RE E k d;have s:=ah.o E[k] (Nj d);obtain⟨px,V,Z⟩:=(gG.ok (ae.o E[k] (Nj d))).shape;generalize E[k]=x at I M s Z;obtain⟨b,xv,xD⟩:=x;dsimp only at Z I M;subst Z;have c0:=(u.o.cell (p:=⟨g,o+k*2,none⟩) hg).trans (X _ _ I);have c1:=(u.o.cell (p:=⟨g,o+(k*2+1),none⟩) hg).trans (X _ _ M);rw[<-yp]at c1;obtain⟨Q,K⟩:b<kd/\(b<5\/37<=b):=s;have au:k<(N:Int):=(by omega);have a7:=zr hg u.o.size;have a6:¬g=wr.heap.size:=(by omega);have T:Hid (Below l l (wr.alloc (.cells #[b,.slice px 64 V] 182))):=u.o.alloc u.o.size _;have am:Hid (∀n,Calls prog 77 #[a] ((wr.alloc (.cells #[b,.slice px 64 V] 182)).drewN n) <|ρ (kd:Int) λw'=>w'=(wr.alloc (.cells #[b,.slice px 64 V] 182)).drewN n):=λn=>(jm ((HD.o.below (zi B.o T.o)).drewN n)).mono λe w' h=>⟨h.1,h.2.symm⟩;have d1:decide (kd<=(b:Int))=false:=(by rw[zz];omega);have aS:decide (kd<=b)=false:=(by rw[zz];omega);clear X I M;by_cases h2:b<5
    .have d2:decide (5<=(b:Int))=false:=(by rw[zz];omega);have aC:decide (5<=b)=false:=(by rw[zz];omega);clear h2 K;go_wp2
     go_quiet ((go_at_call 77;exact xA (am.o _)))
     go_wp2;go_roundw
     .exact⟨k+1,by omega,by go_num,kL T.o _⟩
     .simp[intOf];omega
    .have h8:37<=b:=(by omega);have d2:decide (5<=(b:Int))=true:=(by rw[yx];omega);have aC:decide (5<=b)=true:=(by rw[yx];omega);have d3:decide ((b:Int)<37)=false:=(by rw[zz];omega);have aR:decide (b<37)=false:=(by rw[zz];omega);clear h2 K;go_wp2
     go_quiet ((go_at_call 77;exact xA (am.o _)))
     go_wp2;go_roundw
     .exact⟨k+1,by omega,by go_num,kL T.o _⟩
     .simp[intOf];omega
   .have aK:Hid (Did a (runE st (emit ((E.take 0).map jab))) kd F l wr):=
     ⟨F,HD.o.below (zi B.o u.o),λ_ h=>zu h,yK.of_below u.o⟩
    have ad:=ag.o;have Y:=za ad;have aQ:decide (k<N)=false:=(by rw[zz];exact H);clear u ad;go_wp2;go_loopw [57] (λi wq=>∃j:Nat,j<=N/\i=.int .i64 j/\Hid (Did a (runE st (emit ((E.take j).map jab))) kd F l wq)) (λi _=>N-(intOf i).toNat)
    .exact⟨0,yh _,rfl,aK⟩
    .obtain⟨j,hj,rfl,HR⟩:=hrel;by_cases H:j<N
     .obtain⟨g,o,rfl,hg,X⟩:=HP.o (by omega);have d:j<E.length:=(by rw[C.o];exact H);obtain⟨F',q,r,c⟩:=HR.o;obtain⟨I,M⟩:=RE E j d;have aW:=(aj.o.lt g rfl).1;have ac:¬F g:=λh=>(by have:=Y.o g h;omega);have c0:=(c.cell hg ac).trans (X _ _ I);have c1:=(c.cell hg ac).trans (X _ _ M);rw[<-yp]at c1;have s:=ah.o E[j] (Nj d);have m:=ae.o E[j] (Nj d);have U:Hid (runE st (emit ((E.take (j+1)).map jab))=pV (runE st (emit ((E.take j).map jab))) E[j].n E[j].D):=(by show _=_;rw[<-zU d,yo];exact Of _ _ _);generalize E[j]=x at I M c0 c1 s m U;obtain⟨b,xv,xD⟩:=x;obtain⟨L,V,aO,ak,ai,ab,aa,S⟩:=JR m c Y.o;dsimp only at ak c0 c1 U S;subst ak;have Q:b<kd:=s.1;have z:xD.length=64:=m.2.1;have a7:=zr hg c.size;have a6:¬g=wr.heap.size:=(by omega);have au:j<(N:Int):=(by omega);have al:(runE st (emit ((E.take j).map jab))).W.length<1000000:=(by have h1:=Qg st (emit ((E.take j).map jab));rw[show (emit ((E.take j).map jab)).length=(E.take j).length by simp[emit]]at h1;have h2:=List.length_take_le j E;have h3:=a5.o;omega);have J:¬F' L:=λh=>by
       rcases r L h with h|h
       .have:=Y.o L h;omega
       .omega
      have ar:L<(wr.alloc (.cells #[b,.slice (some ⟨L,0,none⟩) 64 V] 182)).heap.size:=(by have:=xB aa;simp;omega);have a1:=za (q.below (zB.alloc zL (.cells #[b,.slice (some ⟨L,0,none⟩) 64 V] 182)));have az:=za (Zz a1.o b Q (.slice (some ⟨L,0,none⟩) 64 V) xD z (λw' hk=>rH z ((hk.block L ar J).trans (un aa _)) S) al);have a2:=za r;have a4:=za c;clear X I M q r c s m ai ab z aa S J ar al HR;go_wp2_with fail
      refine az.o.mono ?_;rintro e wq ⟨rfl,O⟩;have aB:Hid (Did a (runE st (emit ((E.take (j+1)).map jab))) kd F l wq):=(by show Did _ _ _ _ _ _;rw[U.o];exact oM (a4.o.step (yK.alloc _)) a2.o O);clear O;go_wp2;go_roundw
      .exact⟨j+1,by omega,by go_num,aB⟩
      .simp[intOf];omega
     .have HT:Hid (E.take j=E):=zo (by rw[C.o];omega);rw[HT.o,<-aE.o]at HR;obtain⟨F',q,r,c⟩:=HR.o;have A:Hid (WW kd a (Qp st) (seqO st.N) F wr w (wr.alloc (.cells (logC a sq) 178))):=by
       show WW _ _ _ _ _ _ _ _;rw[aF.o];refine⟨F',q.below (zB.alloc zL _),λi hi=>?_,λh=>?_,((yK.of_below B.o).step c).step (yK.alloc _),zH⟩
       .rcases r i hi with h|h
        .exact zu h
        .exact zw (zv B.o.size h)
       .have:=q.fin _ h;omega
      have a3:=zv B.o.size c.size;clear q r c HR;go_wp2;go_ret2;exact⟨_,rfl,a3,A.o⟩
open Go.Maps
def mapS (S:List Nat):DataW Value:=S.foldl (λD n=>D.put (keyL n) (.held (.bool true))) (.map [])
theorem OD (S) (n):mapS (S++[n])=(mapS S).put (keyL n) (.held (.bool true)):=by unfold mapS;rw[xf];rfl
theorem JM (S:List Nat):∀k,k<=S.length->IsMap (mapS (S.take k))/\∀n,(mapS (S.take k)).atKey (keyL n) (.held (.bool false))=.held (.bool ((S.take k).contains n)):=by
 intro k
 induction k with
 | zero=>intro _;exact⟨isMap_empty,λn=>by rw[atKey_of_not_has (by simp[mapS,has])];rfl⟩
 | succ k c=>
  intro f;obtain⟨a,d⟩:=c (by omega);have b:S.take (k+1)=S.take k++[S[k]]:=(zU (show k<S.length by omega)).symm;rw[b,OD];refine⟨a.put _ _,λn=>?_⟩;by_cases e:n=S[k]
  .subst e;rw[atKey_put_same a (Ma _)];have:(S.take k++[S[k]]).contains S[k]=true:=(by rw[vK];exact MD _ (xZ.2 rfl));rw[this]
  .rw[atKey_put_other (λh=>e (i7 h)),d];have this:(S.take k++[S[k]]).contains n=(S.take k).contains n:=(by rw[nJ,vK,vK,yN,xZ];exact⟨λh=>h.resolve_right e,zu⟩);rw[this]
theorem KK (S) (n):(mapS S).atKey (keyL n) (.held (.bool false))=.held (.bool (S.contains n)):=by
 have:=(JM S S.length zL).2 n
 rwa [xN]at this
def rJ (kd:Nat):List Nat->List (Nat×Nat)->Int
 | _,[]=>0
 | S,x::r=>if kd<=x.1\/(5<=x.1/\x.1<37)\/x.2≠64 then 1 else if S.contains x.1=true then 5 else rJ kd (S++[x.1]) r
def jnl (x:Jw):Nat×Nat:=(x.n,x.D.length)
def Ou (kd:Nat) (E:List Jw):Int:=if 30<E.length then 2 else rJ kd [] (E.map jnl)
theorem Jj {E:List Jw} (hk) (S):rJ kd S ((E.drop k).map jnl)=if kd<=E[k].n\/(5<=E[k].n/\E[k].n<37)\/E[k].D.length≠64 then 1 else if S.contains E[k].n=true then 5 else rJ kd (S++[E[k].n]) ((E.drop (k+1)).map jnl):=by rw[yR hk,yB,rJ];rfl
def YA (x:Jw):Prop:=x.n<256/\x.D.length<=1000/\∃p c,x.v=.slice p x.D.length c
theorem Gt: prog.underlying 89=some (.map 3 4):=by kernel_rfl
theorem Jh (d:w.heap[gl]?=some (.cells (logC a sq) 178)):Calls prog 143 #[(gl,())] w λe w'=>e=.returned (30:Int)/\w=w':=by have c:w.cell? (gl,2)=some (.int .i64 32):=zC d;have b:=xB d;clear d;go_enter func143,ntmps143;go_wp2;go_ret;exact⟨rfl,rfl⟩
theorem Wg (h:uT w a st kd F) (hl:w.heap[gl]?=some (.cells (logC a sq) 178)) (v) (E) (hv:uq w v 2 E.length (jh E)) (hE:∀x∈E,YA x) (hn:E.length<=1000):
 Calls prog 116 #[(gl,()),v] w (κ w (Ou kd E:Int)):=by
 have HD:=za h;have HL:=za hl;have av:=za (Jh hl);obtain⟨p,cp,rfl,HP⟩:=SV hv;have HE:=za hE;obtain⟨N,HN⟩:=zD E.length;rw[HN.o]at HP hn;rw[HN.o];have ab:=xB hl;clear h hl hv hE;have ai:=za (MU w prog 3 RV);have aw:=@run_makeMap prog;go_enter func116,ntmps116;go_wp2_with fail
 refine av.o.mono ?_;rintro e w' ⟨rfl,rfl⟩;by_cases h4:30<N
 .have d1:decide (30<(N:Int))=true:=by rw[yx];omega
  have d2:decide (30<N)=true:=by rw[yx];omega
  have R:Hid (Ou kd E=2):=by show _=_;unfold Ou;rw[HN.o,ze h4]
  go_wp2;go_ret;rw[R.o];exact⟨rfl,zB⟩
 have d1:decide (30<(N:Int))=false:=by rw[zz];omega
 have d2:decide (30<N)=false:=by rw[zz];omega
 have R:Hid (Ou kd E=rJ kd [] (E.map jnl)):=by show _=_;unfold Ou;rw[HN.o,zb h4]
 go_wp2;clear aw;go_loopw [16] (λi wr=>∃k:Nat,k<=N/\i=.int .i64 k/\Hid (wr.ownsMap prog 3 RV w k (mapS ((E.take k).map λx=>x.n)))/\Hid (rJ kd [] (E.map jnl)=rJ kd ((E.take k).map λx=>x.n) ((E.drop k).map jnl))/\Hid (Below w w wr)) (λi _=>N-(intOf i).toNat)
 .exact⟨0,yh _,rfl,ai,rfl,zB.alloc zL _⟩
 .obtain⟨k,hk,rfl,HM,ac,V⟩:=hrel;by_cases an:k<N
  .obtain⟨g,o,rfl,hg,hc⟩:=HP.o (by omega);have T:k<E.length:=(by rw[HN.o];exact an);obtain⟨e0,e1⟩:=RE E k T;have af:=HE.o E[k] (Nj T);have H:=Jj (kd:=kd) T ((E.take k).map λx=>x.n);rw[<-ac.o]at H;have U:(E.take (k+1)).map (λx=>x.n)=(E.take k).map (λx=>x.n)++[E[k].n]:=(by rw[<-zU T,yo];rfl);generalize E[k]=x at e0 e1 af H U;obtain⟨b,xv,xD⟩:=x;obtain⟨C,G,J,K,Z⟩:=af;dsimp only at Z e0 e1 H U C G;obtain⟨S,ak⟩:=zD xD.length;rw[ak.o]at Z H G;subst Z;have c0:=(V.o.cell (p:=⟨g,o+k*2,none⟩) hg).trans (hc _ _ e0);have c1:=(V.o.cell (p:=⟨g,o+(k*2+1),none⟩) hg).trans (hc _ _ e1);rw[<-yp]at c1;have a7:k<(N:Int):=(by omega);have aF:=zr hg V.o.size;have aC:¬g=wr.heap.size:=(by omega);have aD:=zr ab V.o.size;have a1:¬gl=wr.heap.size:=(by omega);have Q:=xV V.o HL.o;have l0:wr.cell? (gl,0)=some (.pointer (some a)):=zC Q;have l1:wr.cell? (gl,1)=some (.int .i64 5):=zC Q;have l2:wr.cell? (gl,2)=some (.int .i64 32):=zC Q;have A:Hid (Below w w (wr.alloc (.cells #[b,(J,S,K)] 182))):=V.o.alloc V.o.size _;have I:Hid (∀n,Calls prog 77 #[a] ((wr.alloc (.cells #[b,(J,S,K)] 182)).drewN n) <|ρ (kd:Int) λw'=>w'=(wr.alloc (.cells #[b,(J,S,K)] 182)).drewN n):=λn=>(jm ((HD.o.below A.o).drewN n)).mono λe w' h=>⟨h.1,h.2.symm⟩;have y:=za H;have P:=za U;have b0:decide ((b:Int)<0)=false:=(by rw[zz];omega);clear hc e0 e1 H U Q;by_cases l:kd<=b
   .have q1:decide (kd<=(b:Int))=true:=(by rw[yx];omega);have am:decide (kd<=b)=true:=(by rw[yx];omega);have c:Hid (rJ kd [] (E.map jnl)=1):=(by show _=_;rw[y.o,ze (zu l)]);clear l;go_wp2
    go_quiet ((go_at_call 77;exact xA (I.o _)))
    go_wp2;go_ret;rw[R.o,c.o];exact⟨rfl,kL A.o _⟩
   have q1:decide (kd<=(b:Int))=false:=(by rw[zz];omega);have am:decide (kd<=b)=false:=(by rw[zz];omega);by_cases q:5<=b/\b<37
   .have q2:decide (5<=(b:Int))=true:=(by rw[yx];omega);have ae:decide (5<=b)=true:=(by rw[yx];omega);have q3:decide ((b:Int)<37)=true:=(by rw[yx];omega);have aj:decide (b<37)=true:=(by rw[yx];omega);have c:Hid (rJ kd [] (E.map jnl)=1):=(by show _=_;rw[y.o,ze (zw (zu q))]);clear l q;go_wp2
    go_quiet ((go_at_call 77;exact xA (I.o _)))
    go_wp2;go_ret;rw[R.o,c.o];exact⟨rfl,kL A.o _⟩
   by_cases h2:b<5
   .have q2:decide (5<=(b:Int))=false:=(by rw[zz];omega);have ae:decide (5<=b)=false:=(by rw[zz];omega);clear h2;by_cases B:S=64;case neg=>
     have q4:((S:Int)==64)=false:=(by rw[yU];omega);have q5:((S:Int) != 64)=true:=(by simp[bne,q4]);have c:Hid (rJ kd [] (E.map jnl)=1):=(by show _=_;rw[y.o,ze (zw (zw B))]);clear l q B;go_wp2
     go_quiet ((go_at_call 77;exact xA (I.o _)))
     go_wp2;go_ret;rw[R.o,c.o];exact⟨rfl,kL A.o _⟩
    subst B;have f:Hid (rJ kd [] (E.map jnl)=if ((E.take k).map λx=>x.n).contains b=true then 5 else rJ kd (((E.take k).map λx=>x.n)++[b]) ((E.drop (k+1)).map jnl)):=(by show _=_;rw[y.o,zb (by intro h;rcases h with h|h|h;exact l h;exact q h;exact h rfl)]);clear l q y;obtain⟨cb,M⟩:=zD (((E.take k).map λx=>x.n).contains b);rw[M.o]at f;have s:Hid (keyOf prog 3 (.int .i64 b)=some (keyL b)):=keyOf_int_mk (by kernel_rfl) (Ee b C);go_wp2
    go_quiet ((go_at_call 77;exact xA (I.o _)))
    have D:=za (kL A.o nq);have L:Hid (((wr.alloc (.cells #[b,.slice J 64 K] 182)).drewN nq).ownsMap prog 3 RV w k (mapS ((E.take k).map λx=>x.n))):=HM.o.alloc _;have x0:((wr.alloc (.cells #[b,.slice J 64 K] 182)).drewN nq).cell? (wr.heap.size,0)=some (.int .i64 b):=zC (zO wr _);have xz:wr.heap.size<((wr.alloc (.cells #[b,.slice J 64 K] 182)).drewN nq).heap.size:=(by simp[World.drewN]);obtain⟨vb,au,O,j⟩:=L.o.lookup (t:=89) (e:=4) Mc Gt (z:=.bool false) (by kernel_rfl) (zd:=.held (.bool false)) (zp:=[]) rfl s.o;rw[KK,M.o]at j;have m:vb=.bool cb:=(by unfold RV at j;simp at j;exact j.1);rw[m]at O;generalize (wr.alloc (.cells #[b,.slice J 64 K] 182)).drewN nq=w5 at *
    have X:=D.o.size;clear j m c0 c1 l0 l1 l2;cases cb with
    | true=>
     have c:Hid (rJ kd [] (E.map jnl)=5):=(by show _=_;rw[f.o,ze rfl]);go_wp2;go_ret;rw[R.o,c.o];exact⟨rfl,D.o⟩
    | false=>
     have c:Hid (rJ kd [] (E.map jnl)=rJ kd ((E.take (k+1)).map λx=>x.n) ((E.drop (k+1)).map jnl)):=(by show _=_;rw[f.o,zb (by simp),P.o]);go_wp2_with (at_mapUpdate;refine sI _ rfl _ _ _ 89 rfl 3 4 Mc Gt RV w k (mapS ((E.take k).map λx=>x.n)) rfl L.o (by unfold maxLen;omega) _ _ (keyL b) rfl rfl s.o _ [] rfl ?_;intro w6 u d)
     have Y:Hid (w6.ownsMap prog 3 RV w (k+1) (mapS ((E.take (k+1)).map λx=>x.n))):=(by show World.ownsMap _ _ _ _ _ _ _;rw[P.o,OD];exact u);have W:=za (D.o.grown d X (by intro r hr;simp at hr;omega));clear u d;go_wp2;go_roundw
     .exact⟨k+1,by omega,by go_num,Y,c,W⟩
     .simp[intOf];omega
   .have q2:decide (5<=(b:Int))=true:=(by rw[yx];omega);have ae:decide (5<=b)=true:=(by rw[yx];omega);have q3:decide ((b:Int)<37)=false:=(by rw[zz];omega);have aj:decide (b<37)=false:=(by rw[zz];omega);clear h2;by_cases B:S=64;case neg=>
     have q4:((S:Int)==64)=false:=(by rw[yU];omega);have q5:((S:Int) != 64)=true:=(by simp[bne,q4]);have c:Hid (rJ kd [] (E.map jnl)=1):=(by show _=_;rw[y.o,ze (zw (zw B))]);clear l q B;go_wp2
     go_quiet ((go_at_call 77;exact xA (I.o _)))
     go_wp2;go_ret;rw[R.o,c.o];exact⟨rfl,kL A.o _⟩
    subst B;have f:Hid (rJ kd [] (E.map jnl)=if ((E.take k).map λx=>x.n).contains b=true then 5 else rJ kd (((E.take k).map λx=>x.n)++[b]) ((E.drop (k+1)).map jnl)):=(by show _=_;rw[y.o,zb (by intro h;rcases h with h|h|h;exact l h;exact q h;exact h rfl)]);clear l q y;obtain⟨cb,M⟩:=zD (((E.take k).map λx=>x.n).contains b);rw[M.o]at f;have s:Hid (keyOf prog 3 (.int .i64 b)=some (keyL b)):=keyOf_int_mk (by kernel_rfl) (Ee b C);go_wp2
    go_quiet ((go_at_call 77;exact xA (I.o _)))
    have D:=za (kL A.o nq);have L:Hid (((wr.alloc (.cells #[b,.slice J 64 K] 182)).drewN nq).ownsMap prog 3 RV w k (mapS ((E.take k).map λx=>x.n))):=HM.o.alloc _;have x0:((wr.alloc (.cells #[b,.slice J 64 K] 182)).drewN nq).cell? (wr.heap.size,0)=some (.int .i64 b):=zC (zO wr _);have xz:wr.heap.size<((wr.alloc (.cells #[b,.slice J 64 K] 182)).drewN nq).heap.size:=(by simp[World.drewN]);obtain⟨vb,au,O,j⟩:=L.o.lookup (t:=89) (e:=4) Mc Gt (z:=.bool false) (by kernel_rfl) (zd:=.held (.bool false)) (zp:=[]) rfl s.o;rw[KK,M.o]at j;have m:vb=.bool cb:=(by unfold RV at j;simp at j;exact j.1);rw[m]at O;generalize (wr.alloc (.cells #[b,.slice J 64 K] 182)).drewN nq=w5 at *
    have X:=D.o.size;clear j m c0 c1 l0 l1 l2;cases cb with
    | true=>
     have c:Hid (rJ kd [] (E.map jnl)=5):=(by show _=_;rw[f.o,ze rfl]);go_wp2;go_ret;rw[R.o,c.o];exact⟨rfl,D.o⟩
    | false=>
     have c:Hid (rJ kd [] (E.map jnl)=rJ kd ((E.take (k+1)).map λx=>x.n) ((E.drop (k+1)).map jnl)):=(by show _=_;rw[f.o,zb (by simp),P.o]);go_wp2_with (at_mapUpdate;refine sI _ rfl _ _ _ 89 rfl 3 4 Mc Gt RV w k (mapS ((E.take k).map λx=>x.n)) rfl L.o (by unfold maxLen;omega) _ _ (keyL b) rfl rfl s.o _ [] rfl ?_;intro w6 u d)
     have Y:Hid (w6.ownsMap prog 3 RV w (k+1) (mapS ((E.take (k+1)).map λx=>x.n))):=(by show World.ownsMap _ _ _ _ _ _ _;rw[P.o,OD];exact u);have W:=za (D.o.grown d X (by intro r hr;simp at hr;omega));clear u d;go_wp2;go_roundw
     .exact⟨k+1,by omega,by go_num,Y,c,W⟩
     .simp[intOf];omega
  .have HF:Hid (rJ kd [] (E.map jnl)=0):=(by show _=_;rw[ac.o,yG (by rw[HN.o];omega)];rfl);go_wp2;go_ret;rw[R.o,HF.o];exact⟨rfl,V.o⟩
end Go.Proofs.YtpcedcnjofbgjaaGreatDoor
namespace Go.Proofs.YtpcedcnjofbgjaaGreatDoor
open Go.Proofs.Tryz Go.RowKit
variable {B b gl k kd:Nat} {D:List Int} {E:List Jw} {F G G':Nat->Prop} {L:List Wr} {W W' w:World} {a:Addr} {sq:Int} {st:Dk} {v:Value} {x:Jw}
def CS (kd:Nat) (w:World) (a:Addr) (gl:Nat) (F:Nat->Prop) (st:Dk) (sq:Int) (G:Nat->Prop) (W:World):Prop:=
 ∃F',uT W a st kd F'/\(∀i,F' i->F i\/w.heap.size<=i)/\(∀i,G i->i<W.heap.size/\w.heap.size<=i/\¬F' i)/\yK (λi=>F i\/i=gl) w W/\W.heap[gl]?=some (.cells (logC a sq) 178)
section
variable {kd : Nat} {w : World} {a : Addr} {gl : Nat} {F : Nat->Prop} {st st' : Dk} {sq : Int} {G : Nat->Prop} {W W' : World}
theorem CS.did (h:CS kd w a gl F st sq G W) (r:¬F gl/\gl<w.heap.size) {F':Nat->Prop} (q:∀i,F' i->F i\/w.heap.size<=i) (s:∀i,G i->¬F' i) (t:Did a st' kd F' W W'):CS kd w a gl F st' sq G W'/\∀i,G i->W'.heap[i]?=W.heap[i]? :=by
 obtain⟨n,p,o,k,g,j⟩:=h;obtain⟨m,l,f,d⟩:=t;have c:∀i,G i->i<W.heap.size/\w.heap.size<=i:=λi b=>⟨(k i b).1,(k i b).2.1⟩;refine⟨⟨m,l,λi b=>?_,λi b=>⟨zr (c i b).1 d.size,(c i b).2,λe=>?_⟩,g.trans d (λi b=>?_),?_⟩,λi b=>d.block i (c i b).1 (s i b)⟩
 .rcases f i b with h|h
  .exact q i h
  .exact zw (zv g.size h)
 .rcases f i e with h|h
  .exact s i b h
  .have:=(c i b).1;omega
 .rcases q i b with h|h
  .exact zu (zu h)
  .exact zw h
 .refine (d.block gl (xB j) (λe=>?_)).trans j;rcases q gl e with h|h
  .exact r.1 h
  .omega
theorem CS.mem (h:CS kd w a gl F st sq G W) (p:¬F gl/\gl<w.heap.size) (o:yK G W W'):CS kd w a gl F st sq (λi=>G i\/(W.heap.size<=i/\i<W'.heap.size)) W':=by
 obtain⟨k,f,l,c,e,g⟩:=h;refine⟨k,f.keep o (λi b d=>(c i d).2.2 b),l,λi b=>?_,e.trans o (λi b=>zw (c i b).2.1),(o.block gl (xB g) (λd=>by have:=(c gl d).2.1;omega)).trans g⟩;rcases b with b|⟨j,m⟩
 .exact⟨zr (c i b).1 o.size,(c i b).2.1,(c i b).2.2⟩
 .exact⟨m,zv e.size j,λn=>by have:=f.fin i n;omega⟩
theorem CS.below (h:CS kd w a gl F st sq G W) (b:¬F gl/\gl<w.heap.size) (c:Below W W W'):CS kd w a gl F st sq (λi=>G i\/(W.heap.size<=i/\i<W'.heap.size)) W':=h.mem b (yK.of_below c)
theorem CS.mono (h:CS kd w a gl F st sq G W) (k:∀i,G' i->G i):CS kd w a gl F st sq G' W:=by obtain⟨b,e,c,g,d,f⟩:=h;exact⟨b,e,c,λi j=>g i (k i j),d,f⟩
theorem CS.drew (h:CS kd w a gl F st sq G W):CS kd w a gl F st sq G W.drew:=by obtain⟨b,e,c,g,d,f⟩:=h;exact⟨b,e.drew,c,g,d.drew,f⟩
theorem CS.count (h:CS kd w a gl F st sq G W) (m:¬F gl/\gl<w.heap.size) (sq'):CS kd w a gl F st sq' G (W.setCell (gl,3) (.int .u32 sq')):=by
 obtain⟨f,j,d,e,g,k⟩:=h;have c:yK (λi=>i=gl) W (W.setCell (gl,3) (.int .u32 sq')):=yK.setCell (F:=λi=>i=gl) rfl _;refine⟨f,j.keep c (λi b l=>?_),d,λi b=>⟨zr (e i b).1 c.size,(e i b).2⟩,g.trans c (λi b=>zu (zw b)),?_⟩
 .subst l;rcases d i b with h|h
  .exact m.1 h
  .omega
 .have:=NT (i:=3) k (.int .u32 sq');simpa[logC]using this
theorem CS.log (h:CS kd w a gl F st sq G W):W.heap[gl]?=some (.cells (logC a sq) 178):=by obtain⟨c,f,d,g,e,b⟩:=h;exact b
theorem CS.cells (h:CS kd w a gl F st sq G W):W.cell? (gl,0)=some (.pointer (some a))/\W.cell? (gl,1)=some (.int .i64 5)/\W.cell? (gl,2)=some (.int .i64 32)/\W.cell? (gl,3)=some (.int .u32 sq)/\gl<W.heap.size/\W.frozen? (gl,3)=false:=by have b:=h.log;exact⟨zC b,zC b,zC b,zC b,xB b,zF b⟩
theorem CS.own (h:CS kd w a gl F st sq G W) {i:Nat} (j:G i):i<W.heap.size:=by obtain⟨c,f,d,b,e,g⟩:=h;exact (b i j).1
theorem CS.keeps (h:CS kd w a gl F st sq G W):yK (λi=>F i\/i=gl) w W:=by obtain⟨c,e,d,g,b,f⟩:=h;exact b
theorem CS.flush (h:CS kd w a gl F st sq G W) (o:¬F gl/\gl<w.heap.size):Calls prog 90 #[a] W λe W'=>e=.returned (.tuple #[])/\CS kd w a gl F (doE st barR) sq G W'/\∀i,G i->W'.heap[i]?=W.heap[i]? :=by have g:=h;obtain⟨l,f,d,j,m,n⟩:=h;exact (Tt f).mono λe W' ⟨c,b⟩=>⟨c,g.did o d (λi k=>(j i k).2.2) b⟩
theorem CS.write (h:CS kd w a gl F st sq G W) (t:¬F gl/\gl<w.heap.size) (n) (x:n<kd) (g c) (D) (u:D.length=64) (v:G g) {cur:Array Value} (y:W.heap[g]?=some (.cells cur 5)) (z:cur.toList.take 64=u8s D) (A:st.W.length<1000000):
 Calls prog 86 #[a,(n:Int),.slice (some ⟨g,0,none⟩) 64 c] W λe W'=>e=.returned ()/\CS kd w a gl F (doE st (n,D,false)) sq G W'/\∀i,G i->W'.heap[i]?=W.heap[i]? :=by
 have m:=h;obtain⟨p,l,k,b,r,s⟩:=h;rw[mh];exact (Zz l n x _ D u (λq f=>rH u ((f.block g (b g v).1 (b g v).2.2).trans y) z) A).mono λe W' ⟨j,d⟩=>⟨j,m.did t k (λi o=>(b i o).2.2) d⟩
def Th (F:Nat->Prop) (gl:Nat) (v:Value):Prop:=∀q,v.ownBlock=some q->¬F q/\q≠gl
theorem CS.write_arg (h:CS kd w a gl F st sq G W) (J:¬F gl/\gl<w.heap.size) (n) (K:n<kd) (L:gG w B x) (M:Th F gl x.v) (N:st.W.length<1000000):
 Calls prog 86 #[a,(n:Int),x.v] W λe W'=>e=.returned ()/\CS kd w a gl F (doE st (n,x.D,false)) sq G W'/\∀i,G i->W'.heap[i]?=W.heap[i]? :=by
 have p:=h;obtain⟨s,u,k,z,t,I⟩:=h;obtain⟨_,l,f,H,y,d,_,c,q⟩:=id L;have b:=M f (by rw[d];rfl);have m:=(t.block f (xB c) (λj=>j.elim b.1 b.2)).trans c;have g:¬s f:=λj=>by
  rcases k f j with h|h
  .exact b.1 h
  .exact yi (xB c) (xn h)
 rw[mh,d];exact (Zz u n K _ x.D l (λE r=>rH l ((r.block f (xB m) g).trans m) q) N).mono λe W' ⟨C,o⟩=>⟨C,p.did J k (λi A=>(z i A).2.2) o⟩
end
def TD (W:World) (G:Nat->Prop) (b:Nat) (v:Value) (L:List Rb):Prop:=∃E,E.map rab=L/\W.ownsRow b 184 3 v E.length (rS E)/\(∀q,v.ownBlock=some q->G q)/\∀x∈E,x.b=false/\x.n<256/\x.D.length=64/\∃g cap cur,x.v=.slice (some ⟨g,0,none⟩) 64 cap/\G g/\W.heap[g]?=some (.cells cur 5)/\cur.toList.take 64=u8s x.D
theorem TD.nil (W) (G) (b):TD W G b (.slice none 0 0) []:=⟨[],rfl,yL _ _ _ _,λq c=>by simp[Value.ownBlock]at c,λx a=>by simp at a⟩
theorem TD.keep {L:List Rb} (h:TD W G b v L) (u:∀i,G i->W'.heap[i]?=W.heap[i]?) (w:∀i,G i->G' i):TD W' G' b v L:=by obtain⟨E,n,j,f,m⟩:=h;refine⟨E,n,tI j λq a=>u q (f q a),λq a=>w q (f q a),λx p=>?_⟩;obtain⟨r,o,s,g,c,d,t,e,l,k⟩:=m x p;exact⟨r,o,s,g,c,d,t,w g e,(u g e).trans l,k⟩
theorem TD.run {L:List Rb} (h:TD W G b v L):∃E,E.map rab=L/\Oa W v E/\∀x∈E,RqOk W x:=by obtain⟨E,k,e,q,f⟩:=h;refine⟨E,k,Oa.of_owns e,λx o=>?_⟩;obtain⟨d,n,a,g,l,c,j,p,i,m⟩:=f x o;refine zw ⟨d,n,?_,a⟩;rw[j];exact rH a i m
def zS : List Int:=List.replicate 64 0
def OU (sq:Int) (L:List Wr):Nat->List Int
 | 0=>over ((zS.set 0 74).set 5 L.length) 1 (uz sq)
 | k+1=>(OU sq L k).set (6+k) (((L[k]?.getD (0,[])).1))
def UK (sq:Int) (L:List Wr):List Int:=OU sq L L.length
def nV (sq sm:Int):List Int:=over (over (zS.set 0 67) 1 (uz sq)) 5 (uz sm)
def Rd (L:List Wr):Nat->List Rb
 | 0=>[]
 | k+1=>Rd L k++[(6+k,(L[k]?.getD (0,[])).2,false)]
def opsA (L:List Wr):List Rb:=[barR,(5,zS,false),barR]++Rd L L.length
def opsB (sq:Int) (L:List Wr):List Rb:=opsA L++[(6+L.length,zS,false),barR,(5,UK sq L,false),(6+L.length,nV sq (sumW L),false),barR]
def opsJ (sq:Int) (L:List Wr):List Rb:=opsB sq L++Ob (emit L) 0
theorem XX: zS.length=64:=by simp[zS]
theorem Ph {l:List Int} {o:Nat} (h:o+D.length<=l.length):(over l o D).length=l.length:=by unfold over;rw[zl,zl,Ni,Nk];omega
theorem PR (sq) (L):∀k,(OU sq L k).length=64
 | 0=>by rw[OU,Ph (by simp[zS,uz])];simp[zS]
 | k+1=>by rw[OU,xT];exact PR sq L k
theorem Ml (sq sm):(nV sq sm).length=64:=by unfold nV;rw[Ph (by rw[Ph (by simp[zS,uz])];simp[zS,uz]),Ph (by simp[zS,uz])];simp[zS]
theorem nU (L) (i) (x):(u8s L).toArray.setIfInBounds i (.int .u8 x)=(u8s (L.set i x)).toArray:=by unfold u8s;rw[uk];simp
structure YB (kd:Nat) (L:List Wr):Prop where
 n:∀x∈L,(x.1<5\/37<=x.1)/\x.1<kd
 d:(L.map λx=>x.1).Nodup
 l:L.length<=30
theorem Jk (S) (l) (f:∀x∈l,(x.1<5\/37<=x.1)/\x.1<kd/\x.2=64) (e:(S++l.map λx=>x.1).Nodup):rJ kd S l=0:=by
 induction l generalizing S with
 | nil=>rfl
 | cons x l a=>
  have d:=f x (by simp);rw[rJ,zb (by omega),zb]
  .refine a _ (λy b=>f y (by simp[b])) ?_;rw[zR];exact e
  .rw[vK];intro c;rw[wl]at e;exact e.2.2 x.1 c x.1 (by simp) rfl
theorem jB (g:YB kd (E.map jab)) (h:∀x∈E,gG w B x):Ou kd E=0:=by
 have f:E.length<=30:=by have:=g.l;rwa [yD]at this
 unfold Ou;rw[zb (by omega)];refine Jk [] _ (λy e=>?_) ?_
 .obtain⟨x,b,rfl⟩:=yd.1 e;have a:=g.n (jab x) (yd.2 ⟨x,b,rfl⟩);have c:=(h x b).2.1;exact⟨a.1,a.2,c⟩
 .rw[yJ,vo];have:=g.d;rw[vo]at this;exact this
theorem Dd (h:gG w B x):YA x:=by obtain⟨d,c,g,a,b,e,_⟩:=h;exact⟨d,by omega,_,a,by rw[e,c]⟩
theorem Cq (h:CS kd w a gl F st sq (λ_=>False) w) (y:¬F gl/\gl<w.heap.size) (p) (c):
 Calls prog 74 #[(gl,()),.slice p 0 c] w <|ρ () λw'=>CS kd w a gl F (doE st barR) sq (λ_=>False) w':=by
 have l:Hid (Calls prog 116 #[(gl,()),.slice p 0 c] w (κ w ())):=by obtain⟨v,k,_⟩:=id h;exact Wg k h.log (.slice p 0 c) [] ⟨rfl,zu ⟨rfl,p,c,rfl⟩⟩ (by simp) (by simp)
 have m:=za h;have d:=za y;clear h y;go_enter func74,ntmps74;go_wp2_with fail
 refine l.o.mono ?_;rintro e u ⟨rfl,g⟩;have b:=za ((m.o.below d.o g).mono (G':=λ_=>False) (λ_ h=>h.elim));clear g;obtain⟨q,s,t,n,j,r⟩:=b.o.cells;go_wp2_with fail
 refine (b.o.flush d.o).mono ?_;rintro e x ⟨rfl,f,_⟩;have i:=za f;clear f q s t n r;go_wp2;go_ret;exact⟨rfl,i.o⟩
theorem pF (n) (b:0<=n) (c:n<4294967296) (w W:World) (d:Below w w W) (a:W.heap.size=w.heap.size):Calls prog 117 #[.int .u32 n] W <|ρ (.slice (some ⟨w.heap.size,0,none⟩) 4 4) λw'=>Below w w w'/\uM w' (.slice (some ⟨w.heap.size,0,none⟩) 4 4) (uz n):=by refine (IQ n b c W).mono ?_;rintro e w' ⟨rfl,rfl⟩;rw[<-a];refine⟨rfl,?_,rH (cur:=(u8s (uz n)).toArray) rfl (zO W _) (by simp[u8s,uz])⟩;rw[a];exact d.alloc (by omega) _
theorem CS.copied (h:CS kd w a gl F st sq G W) (c:¬F gl/\gl<w.heap.size) (d:Below W W W') {g:Nat} (e:G g) (cs):CS kd w a gl F st sq G (W'.setRow g cs):=
 (h.mem c ((yK.of_below d).step (yK.setRow e cs))).mono λ_ b=>zu b
theorem TD.snoc {W2 W4:World} {gg g2 cap2 cap4:Nat} {E:List Rq} {n:Nat} {cur2:Array Value} {o:Obj}
 (K:W.ownsRow b 184 3 v E.length (rS E)) (L:∀q,v.ownBlock=some q->G q)
 (M:∀x∈E,x.b=false/\x.n<256/\x.D.length=64/\∃g cap cur,x.v=.slice (some ⟨g,0,none⟩) 64 cap/\G g/\W.heap[g]?=some (.cells cur 5)/\cur.toList.take 64=u8s x.D)
 (C:Below W W W2) (F:W.heap.size<=g2) (H:W2.heap[g2]?=some (.cells cur2 5)) (I:cur2.toList.take 64=u8s D) (N:n<256) (O:D.length=64)
 (B:W4.ownsRow b 184 3 (gg,0,(E.length+1),cap4) (E.length+1) (rS E++[.int .i64 n,.slice (some ⟨g2,0,none⟩) 64 cap2,.bool false]))
 (A:(W2.alloc o).grownBy W4 v.ownBlock) (J:v.ownBlock=some gg\/gg=W2.heap.size+1):
 TD W4 (λi=>G i\/(W.heap.size<=i/\i<W4.heap.size)) b (gg,0,(E.length+1),cap4) (E.map rab++[(n,D,false)])/\yK G W W4:=by
 have s:(W2.alloc o).heap.size=W2.heap.size+1:=by simp
 have p:=A.size;refine⟨⟨E++[⟨n,.slice (some ⟨g2,0,none⟩) 64 cap2,D,false⟩],by rw[yo];rfl,?_,λq f=>?_,λx c=>?_⟩,((yK.of_below C).step (yK.alloc o)).step (yK.grown A L)⟩
 .rw[zl,ZD];exact B
 .have m:=(B.lt q f).2;have t:gg=q:=by simpa[Value.ownBlock]using f
  subst t;rcases J with h|h
  .exact zu (L _ h)
  .exact zw ⟨by have:=C.size;omega,m⟩
 .rcases yN.1 c with c|c
  .obtain⟨u,r,w,g,cap,cur,y,k,j,l⟩:=M x c;refine⟨u,r,w,g,cap,cur,y,zu k,?_,l⟩;have a:=rC K j (by decide);have d:=un (xV C j) o;exact (A.block g (xB d) (yA a)).trans d
  .rw[xZ]at c;subst c;have d:=un H o;have a:v.ownBlock≠some g2:=λz=>(by have:=(K.lt g2 z).2;omega);have e:=(A.block g2 (xB d) (yA a)).trans d;exact⟨rfl,N,O,g2,cap2,cur2,rfl,zw ⟨F,xB e⟩,e,I⟩
theorem K7 (L):∀k,(Rd L k).length=k
 | 0=>rfl
 | k+1=>by rw[Rd,zl,K7 L k];rfl
theorem Z8 (hk):emit (L.take (k+1))=emit (L.take k)++[(L[k].1,L[k].2,false)]:=by unfold emit;rw[<-zU hk,yo];rfl
theorem XL (hk):Rd L (k+1)=Rd L k++[(6+k,L[k].2,false)]:=by rw[Rd,zk hk];rfl
theorem Xj (hk):OU sq L (k+1)=(OU sq L k).set (6+k) ((L[k].1)):=by rw[OU,zk hk];rfl
theorem CS.arg (h:CS kd w a gl F st sq G W) (l:gG w B x) (m:Th F gl x.v):uM W x.v x.D:=by obtain⟨_,_,e,k,f,c,_,d,i⟩:=id l;have b:=m e (by rw[c];rfl);have g:=(h.keeps.block e (xB d) (λj=>j.elim b.1 b.2)).trans d;rw[c];exact rH l.2.1 g i
structure LJ (kd:Nat) (w:World) (a:Addr) (gl:Nat) (F:Nat->Prop) (st:Dk) (sq:Int) (L:List Wr) (gn gh:Nat) (Z:List Int) (k:Nat) (td:Value) (W:World):Prop where
 ex:∃G GT:Nat->Prop,CS kd w a gl F (runE st (Rd L k)) sq G W/\(G gn/\G gh)/\(∀i,GT i->G i/\i≠gn/\i≠gh)/\TD W GT w td (emit (L.take k))
 hh:W.heap[gh]?=some (.cells (u8s (OU sq L k)).toArray 5 (0,0))
 hz:W.heap[gn]?=some (.cells (u8s Z).toArray 5 (0,0))
theorem CS.jws (h:CS kd w a gl F st sq G W) (f:qJ w b B v E) (i:∀x∈E,Th F gl x.v) (g:Th F gl v):Iy W v E:=by exact⟨uq.of_owns (tI f.1 λq d=>h.keeps.block q (f.1.lt q d).2 λe=>e.elim (g q d).1 (g q d).2),λx c=>⟨(f.2 x c).1,h.arg (f.2 x c) (i x c),(f.2 x c).2.1⟩⟩
theorem CS.runs {GT:Nat->Prop} (u:kd<=256) (h:CS kd w a gl F st sq G W) (s:¬F gl/\gl<w.heap.size) {R:List Rb} (y:TD W GT b v R) (z:∀x∈R,x.1<kd) (t:R.length<=100) (A:st.W.length<900000):
 Calls prog 119 #[a,v] W λe W'=>e=.returned ()/\CS kd w a gl F (runE st (Ob R 0)) sq (λ_=>False) W':=by
 have k:=h.mono (G':=λ_=>False) (λ_ d=>d.elim);obtain⟨o,l,j,r,p,q⟩:=h;obtain⟨E,c,m,f⟩:=y.run;refine (Jf l v E m f (λx f _=>?_) (by omega) ?_ A).mono λe W' ⟨n,g⟩=>⟨n,?_⟩
 .exact z (rab x) (by rw[<-c];exact yd.2 ⟨x,f,rfl⟩)
 .rw[<-c,yD]at t;exact t
 .rw[c]at g;exact (k.did s j (λi d=>d.elim) g).1
theorem Rh {o:Oper} {a:Act} {K:Act->World->Prop} {Q:Exit->Act->World->Prop} {ops:Array Oper} {X:Prop} (j:Option Nat) (c:o.dst=j) (e:o.guard=none) (d s) (dT sT) (k:o.op=.call {callee:=.builtin .copy,args:=#[d,s],argTypes:=#[dT,sT]}) (elem) (l:prog.underlying dT=some (.slice elem)) (f:(prog.info? elem).map (·.size)=some 1)
 (g off dLen dCap) (sv) (m:a.eval d=.slice (some ⟨g,off,none⟩) dLen dCap) (n:a.eval s=sv) (cur D) (t) (p:w.heap[g]?=some (.cells (u8s cur).toArray t (0,0)))
 (q:uM w sv D) (r:0<D.length) (i:D.length<=dLen) (b:off+D.length<=cur.length)
 (h:K (a.put j (goInt D.length)) (w.setRow g (u8s (over cur off D)).toArray)):if Region.wanted o (yielded ops a.tmps)=true then Oper.wp prog o a w K Q else X:=
 Oq e d s dT sT k elem l f g off dLen dCap sv m n cur D t p q r i b (by rw[c];exact h)
theorem VV (aF:64<=kd) (ay:kd<=256) (h:CS kd w a gl F st sq (λ_=>False) w) (hgl:¬F gl/\gl<w.heap.size) (v) (E) (hJ:qJ w b B v E) (ho:∀x∈E,Th F gl x.v) (aw:Th F gl v) (hg:YB kd (E.map jab)) (h0:0<E.length) (a0:0<=sq/\sq<=1000) (hW:st.W.length<800000):
 Calls prog 74 #[(gl,()),v] w <|ρ () λw'=>CS kd w a gl F (runE st (opsJ (sq+1) (E.map jab))) (sq+1) (λ_=>False) w':=by
 have HR:Hid (Calls prog 116 #[(gl,()),v] w (κ w ())):=by obtain⟨F',O,_⟩:=id h;have h2:=Wg O h.log v E (uq.of_owns hJ.1) (λx hx=>Dd (hJ.2 x hx)) (by have:=hg.l;rw[yD]at this;omega);rw[jB hg hJ.2]at h2;exact h2
 have HC:=za h;have f:=za hgl;have cL:=za ho;have bP:=za aw;have HJ:=za hJ.2;have dG:=za hJ;have HG:=za hg;obtain⟨p,cp,rfl,HP⟩:=SV (uq.of_owns hJ.1);obtain⟨N,HN⟩:=zD E.length;have dW:E.length<=30:=by have:=hg.l;rwa [yD]at this
 rw[HN.o]at HP h0 dW;rw[HN.o];rw[HN.o]at HR;obtain⟨L,HL⟩:=zD (E.map jab);have ah:Hid (L.length=N):=by show _=_;rw[<-HL.o,yD];exact HN.o
 rw[HL.o]at HG;have a3:Calls prog 74 #[(gl,()),(p,N,cp)] w <|ρ () λw'=>CS kd w a gl F (runE st (opsJ (sq+1) L)) (sq+1) (λ_=>False) w':=by
  have eM:((N:Int)==0)=false:=by rw[yU];omega
  obtain⟨eN,eJ⟩:=a0;have dV:=za hW;obtain⟨Z,HZ⟩:=zA zS;have an:∀W,(Instr.makeSlice 38 (.int .i64 64) (.int .i64 64)).run prog W=.ok (.slice (some ⟨W.heap.size,0,none⟩) 64 64) (W.alloc (.cells (u8s Z).toArray 5)):=λW=>by rw[HZ.o];exact Mj 64 64 rfl (by omega) W
  clear h hgl ho aw hJ hg hW;go_enter func74,ntmps74;go_wp2_with fail
  refine HR.o.mono ?_;rintro e w1 ⟨rfl,d7⟩;have br:=za ((HC.o.below f.o d7).mono (G':=λ_=>False) (λ_ h=>h.elim));clear d7 HR;obtain⟨A,u,z,r,s,H⟩:=br.o.cells;go_wp2_with fail
  refine (br.o.flush f.o).mono ?_;rintro e w2 ⟨rfl,du,_⟩;have bF:=za du;clear du A u z r H s br;obtain⟨A,u,z,r,s,H⟩:=bF.o.cells;have cQ:=bF.o.count f.o (sq+1);have bS:=(cQ.below f.o (zB.alloc zL (.cells (u8s Z).toArray 5))).mono (G':=λi=>i=(w2.setCell (gl,3) (.int .u32 (sq+1))).heap.size) (λi c=>zw ⟨by omega,by subst c;simp⟩);have bt:=zO (w2.setCell (gl,3) (.int .u32 (sq+1))) (.cells (u8s Z).toArray 5);rw[show (w2.setCell (gl,3) (.int .u32 (sq+1))).heap.size=w2.heap.size by simp[World.setCell]]at bS bt;have aV:=za bS;have bs:=za bt;clear cQ bS bt;go_wp2;have aT:Hid ((doE st barR).W.length<=800001):=by have O:=TE st barR;have h2:=dV.o;show _<=_;omega
  obtain⟨s1,cW⟩:=zD (doE st barR);rw[cW.o]at aV aT;clear bF A u z r s H HC an;generalize (w2.setCell (gl,3) (.int .u32 (sq+1))).alloc (.cells (u8s Z).toArray 5)=w4 at *
  generalize w2.heap.size=Q at *
  obtain⟨A,u,z,r,s,H⟩:=aV.o.cells
  go_still_tail 9,(by kernel_rfl)
  go_wp2_with fail
  refine (aV.o.drew.write f.o 5 (by omega) Q 64 zS XX rfl (cur:=(u8s Z).toArray) bs.o (by rw[HZ.o];simp[u8s,zS]) (by have:=aT.o;omega)).mono ?_;rintro e w5 ⟨rfl,b8,cU⟩;have d5:=za ((cU Q rfl).trans bs.o);have a1:Hid ((doE s1 (5,zS,false)).W.length<=800002):=by have O:=TE s1 (5,zS,false);have h2:=aT.o;show _<=_;omega
  obtain⟨s2,dr⟩:=zD (doE s1 (5,zS,false));rw[dr.o]at b8 a1;have bJ:=za b8;clear b8 cU A u z r s H aV bs aT;obtain⟨A,u,z,r,s,H⟩:=bJ.o.cells;go_wp2_with fail
  refine (bJ.o.flush f.o).mono ?_;rintro e w6 ⟨rfl,bT,aX⟩;have di:=za ((aX Q rfl).trans d5.o);have al:Hid ((doE s2 barR).W.length<=800003):=by have O:=TE s2 barR;have h2:=a1.o;show _<=_;omega
  obtain⟨s3,cF⟩:=zD (doE s2 barR);rw[cF.o]at bT al;have aJ:=za bT;clear bT aX A u z r s H bJ d5 a1;obtain⟨A,u,z,r,s,H⟩:=aJ.o.cells;have an:∀W,(Instr.makeSlice 38 (.int .i64 64) (.int .i64 64)).run prog W=.ok (.slice (some ⟨W.heap.size,0,none⟩) 64 64) (W.alloc (.cells (u8s Z).toArray 5)):=λW=>by rw[HZ.o];exact Mj 64 64 rfl (by omega) W
  go_upto_region 12 with fail
  clear an;have ad:=zO w6 (.cells (u8s Z).toArray 5);have az:=(aJ.o.below f.o (zB.alloc zL (.cells (u8s Z).toArray 5))).mono (G':=λi=>i=Q\/i=w6.heap.size) (λi c=>c.imp id (λh=>⟨by omega,by subst h;simp⟩));have aP:Q≠w6.heap.size:=by have:=aJ.o.own (i:=Q) rfl;omega
  have cA:Hid ((w6.alloc (.cells (u8s Z).toArray 5)).heap[Q]?=some (.cells (u8s Z).toArray 5 (0,0))):=un di.o _;clear A u z r s H aJ di;generalize w6.alloc (.cells (u8s Z).toArray 5)=w7 at *
  generalize w6.heap.size=j at *
  have z0:w7.cell? (j,0)=some (.int .u8 0):=by rw[zC ad,HZ.o];rfl
  have z5:w7.cell? (j,5)=some (.int .u8 0):=by rw[zC ad,HZ.o];rfl
  have f0:w7.frozen? (j,0)=false:=zF ad;have f5:w7.frozen? (j,5)=false:=zF ad;have dF:=xB ad;have aj:Hid (((w7.setCell (j,0) (.int .u8 74)).setCell (j,5) (.int .u8 N)).heap[j]?=some (.cells (u8s ((Z.set 0 74).set 5 N)).toArray 5 (0,0))):=by have O:=NT (i:=0) ad (.int .u8 74);rw[nU]at O;have h2:=NT (i:=5) O (.int .u8 (N:Int));rw[nU]at h2;exact h2
  have Y:yK (λi=>i=Q\/i=j) w7 ((w7.setCell (j,0) (.int .u8 74)).setCell (j,5) (.int .u8 N)):=(yK.setCell (F:=λi=>i=Q\/i=j) (zw rfl) _).step (yK.setCell (F:=λi=>i=Q\/i=j) (zw rfl) _);have X:=za ((az.mem f.o Y).mono (G':=λi=>i=Q\/i=j) (λi c=>zu c));have cK:Hid (((w7.setCell (j,0) (.int .u8 74)).setCell (j,5) (.int .u8 N)).heap[Q]?=some (.cells (u8s Z).toArray 5 (0,0))):=(yj _ _ _ _ aP).trans ((yj _ _ _ _ aP).trans cA.o);clear az Y ad;go_wp2;obtain⟨A,u,z,r,s,H⟩:=X.o.cells;generalize (w7.setCell (j,0) (.int .u8 74)).setCell (j,5) (.int .u8 (N:Int))=w8 at *
  clear z0 z5 f0 f5 dF cA;have ao:=za (pF (sq+1) (by omega) (by omega) w8 w8.drew (zB.drew) rfl);refine te ?_
  go_region_held_law (λw'=>w'.cell? (gl,3)=some (.int .u32 (sq+1)))
   (first
    | (go_keep;done)
    | exact m1
    | exact m2)
   (first
    | (
     go_at_call 117;refine ao.o.mono ?_;rintro e w9 ⟨rfl,ab,ax⟩
     have m1:=(ab.cell (p:=⟨gl,3,none⟩) s).trans r;have K:=za ab;have ap:=za ax;clear ab ax)
    | (
     refine Rh (some 64) (by rfl) (by rfl) _ _ _ _ (by rfl) 5 u8sT ky j 1 63 63 _ (by rfl) (by rfl) ((Z.set 0 74).set 5 (N:Int)) (uz (sq+1)) 5 (xV K.o aj.o) ap.o (by simp[uz]) (by simp[uz]) (by rw[HZ.o];simp[uz,zS]) ?_;have q:=X.o.copied f.o K.o (g:=j) (zw rfl) (u8s (over ((Z.set 0 74).set 5 (N:Int)) 1 (uz (sq+1)))).toArray;have J:=ya w9 j _ (u8s (over ((Z.set 0 74).set 5 (N:Int)) 1 (uz (sq+1)))).toArray _ _ (xV K.o aj.o);have bh:=(yO w9 j Q (u8s (over ((Z.set 0 74).set 5 (N:Int)) 1 (uz (sq+1)))).toArray aP).trans (xV K.o cK.o);generalize w9.setRow j (u8s (over ((Z.set 0 74).set 5 (N:Int)) 1 (uz (sq+1)))).toArray=dC at *
     have m2:=q.cells.2.2.2.1;have bn:=za q;have bm:=za J;have be:=za bh;clear q J bh))
  refine sL ?_;clear m1 m2 ap K X aj cK ao A u z r s H;go_wp2;have dA:Hid (LJ kd w a gl F s3 (sq+1) L Q j Z 0 (.slice none 0 0) dC):=⟨⟨_,λ_=>False,bn.o,⟨zu rfl,zw rfl⟩,λi c=>c.elim,TD.nil _ _ _⟩,by rw[OU,ah.o,<-HZ.o];exact bm.o,be.o⟩;clear bn bm be;go_loopw [8,67] (λtd i wr=>∃k:Nat,k<=N/\i=.int .i64 k/\Hid (LJ kd w a gl F s3 (sq+1) L Q j Z k td wr)) (λ_ i _=>N-(intOf i).toNat)
  .exact⟨0,yh _,rfl,dA⟩
  .obtain⟨k,hk,rfl,T⟩:=hrel;obtain⟨G,GT,hC,hG,aG,hT⟩:=T.o.ex;by_cases s:k<N
   .obtain⟨g,o,rfl,hg,hc⟩:=HP.o (by omega);have cq:k<E.length:=(by rw[HN.o];exact s);obtain⟨e0,e1⟩:=RE E k cq;have hx:=HJ.o E[k] (Nj cq);have aO:k<L.length:=(by rw[ah.o];exact s);have cv:L[k]=jab E[k]:=(by simp only[<-HL.o,uv]);have a9:=HG.o.n L[k] (Nj aO);have a2:=Xj (sq:=sq+1) aO;have a6:=XL aO;have aq:=Z8 aO;rw[cv]at a9 a2 a6 aq;have b4:=cL.o E[k] (Nj _);generalize E[k]=x at e0 e1 hx a9 a2 a6 aq b4;have cy:=za b4;clear b4;have HX:=za hx;obtain⟨R,xv,xD⟩:=x;obtain⟨a7,b0,gx,cx,en,da,_⟩:=hx;dsimp only[jab]at da e0 e1 a9 a2 a6 aq a7 b0;subst da;have cl:¬(F g\/g=gl):=λhc=>hc.elim (bP.o g rfl).1 (bP.o g rfl).2;have c0:=(hC.keeps.cell (i:=o+k*2) hg cl).trans (hc _ _ e0);have c1:=(hC.keeps.cell (i:=o+(k*2+1)) hg cl).trans (hc _ _ e1);rw[<-yp]at c1;have ew:k<(N:Int):=(by omega);have hgl:=zr hg hC.keeps.size;have eQ:¬g=wr.heap.size:=(by omega);have ep:=hC.own hG.2;have em:¬j=wr.heap.size:=(by omega);have el:¬Q=wr.heap.size:=(by have:=hC.own hG.1;omega);have i6:=zW (6+k) (by omega);have ei:0<=6+(k:Int):=(by omega);have dN:6+(k:Int)<64:=(by omega);have dD:(6+(k:Int)).toNat=6+k:=(by omega);have ku:IntKind.u8.wrap R=R:=IntWalk.u8_in _ (by omega);have aX:6+k<64:=(by omega);have z6:wr.cell? (j,6+k)=(u8s (OU (sq+1) L k))[6+k]? :=(by rw[zC T.o.hh];simp);rw[Ch _ _ (by rw[PR];exact aX)]at z6;have f6:wr.frozen? (j,6+k)=false:=zF T.o.hh;have HC:=za hC;have I:=za hG;have m:=za aG;have HT:=za hT;have d1:=za a2;have c6:=za a6;have dT:=za aq;have fa:=za a9;clear hC hG aG hT a2 a6 aq a9 hc e0 e1 cv;go_wp2;have U:(wr.setCell (j,6+k) (.int .u8 R)).heap.size=wr.heap.size:=(by simp[World.setCell]);have dk:=((((HC.o.mem f.o (yK.setCell (F:=G) (p:=⟨j,6+k,none⟩) I.o.2 (.int .u8 (R:Int)))).mono (G':=G) λi c=>zu c).below f.o (zB.alloc zL (.cells #[R,.slice (some ⟨gx,0,none⟩) 64 cx] 182)))).mono (G':=λi=>G i\/i=wr.heap.size) (λi c=>c.imp id (λh=>by subst h;rw[U];exact⟨zL,by simp[U]⟩));have bY:=un (NT (i:=6+k) T.o.hh (.int .u8 (R:Int))) (.cells #[R,.slice (some ⟨gx,0,none⟩) 64 cx] 182);rw[nU,<-d1.o]at bY;have dd:=un ((yj wr ⟨j,6+k,none⟩ (.int .u8 (R:Int)) Q aP).trans T.o.hz) (.cells #[R,.slice (some ⟨gx,0,none⟩) 64 cx] 182);have bH:=zO (wr.setCell (j,6+k) (.int .u8 (R:Int))) (.cells #[R,.slice (some ⟨gx,0,none⟩) 64 cx] 182);rw[U]at bH;have co:=HT.o.keep (W':=(wr.setCell (j,6+k) (.int .u8 (R:Int))).alloc (.cells #[R,.slice (some ⟨gx,0,none⟩) 64 cx] 182)) (G':=GT) (λi c=>(wN _ _ i (by rw[U];exact HC.o.own (m.o i c).1)).trans (yj wr _ _ i (m.o i c).2.2)) (λ_ c=>c);have b3:=za dk;have cG:=za bY;have cB:=za dd;have aB:=za bH;have dn:=za co;have dE:G wr.heap.size->False:=λh=>(by have:=HC.o.own h;omega);clear dk bY dd bH co z6 f6 c0 c1 HC HT T d1 i6 ei dN dD ku U;generalize (wr.setCell (j,6+k) (.int .u8 (R:Int))).alloc (.cells #[R,.slice (some ⟨gx,0,none⟩) 64 cx] 182)=wA at *
    generalize wr.heap.size=gw at *
    obtain⟨A,u,z,r,d,H⟩:=b3.o.cells;have c0:wA.cell? (gw,0)=some (.int .i64 R):=zC aB.o;have c1:wA.cell? (gw,1)=some (.slice (some ⟨gx,0,none⟩) 64 cx):=zC aB.o;have cj:=xB aB.o;have i3:=zW (6+k) (by omega);have C:=b3.o.drew.write_arg f.o (6+k) (by omega) HX.o cy.o (by have O:=Qg s3 (Rd L k);rw[K7]at O;have:=al.o;omega);rw[show ((6+k:Nat):Int)=6+(k:Int) by omega]at C;have P:=za C;clear C
    go_still_tail 13,(by kernel_rfl)
    go_wp2_with fail
    refine P.o.mono ?_;rintro e wB ⟨rfl,dy,aC⟩;have au:=dy.drew;rw[<-Qf,<-c6.o]at au;have aK:=za au;have dl:=(aC j (zu I.o.2)).trans cG.o;have cw:=(aC Q (zu I.o.1)).trans cB.o;have aW:=(aC gw (zw rfl)).trans aB.o;have dq:=dn.o.keep (W':=wB.drew) (G':=GT) (λi c=>aC i (zu (m.o i c).1)) (λ_ c=>c);have aS:=za dl;have aR:=za cw;have cf:=za dq;have x0:wB.cell? (gw,0)=some (.int .i64 R):=zC aW;have x1:wB.cell? (gw,1)=some (.slice (some ⟨gx,0,none⟩) 64 cx):=zC aW;have af:=xB aW;clear dy au aC dl cw aW dq b3 cG cB aB dn c0 c1 A u z r d H i3 P cj c6;obtain⟨ET,bz,ho,h3,h4⟩:=cf.o;have dh:=za bz;have HO:=za ho;have H3:=za h3;have H4:=za h4;have eq:ET.length<=30:=(by have O:(ET.map rab).length=(emit (L.take k)).length:=(by rw[bz]);rw[yD]at O;unfold emit at O;rw[yD,Ni]at O;omega);have ef:=za (aK.o.arg HX.o cy.o);have dZ:w.heap.size<=wB.heap.size:=aK.o.keeps.size;clear bz ho h3 h4 cf;have ch:=za (Yf _ xD wB.drew ef.o b0);obtain⟨i0,cm,ds,cC,cZ⟩:=yX iQ;have HI:=za cm;have dO:=za ds;have ej:=za cC;have dY:=za cZ;clear cm ds cC cZ;go_wp2_with fail
    refine te ?_
    go_region_held_law (λw'=>w'.cell? (gw,0)=some (.int .i64 (R:Int))/\w'.cell? (gw,1)=some (.slice (some ⟨gx,0,none⟩) 64 cx))
     (first
      | exact⟨m1,m2⟩
      | exact⟨m3,m4⟩
      | (go_keep;done))
     (first
      | (
       go_at_call 104;refine ch.o.mono ?_;rintro e w2 ⟨v2,rfl,g2,bc,e5,rfl,cD,cX,c9,ac⟩
       have m1:=(ac.cell (p:=⟨gw,0,none⟩) af).trans x0;have m2:=(ac.cell (p:=⟨gw,1,none⟩) af).trans x1;have cO:=za (tt HO.o ac);have cP:=za ac;have d0:=za cD;have ct:=za cX;have ce:=za c9;have eZ:=zv dZ ac.size;have ev:=zr af ac.size;have eu:¬gw=w2.heap.size:=(by omega);clear cD cX c9 ac)
      | (
       refine ut _ (by rfl) _ _ _ (by rfl) w.heap.size 184 i0 (.agg #[(),.slice none 0 0,.bool false]) 3 40 Hg HI.o dO.o ej.o dY.o rfl (by omega) _ ET.length (rS ET) (by rfl) (cO.o.alloc _)
        ⟨w2.heap.size,0,none⟩ 1 1 [.int .i64 (R:Int),.slice (some ⟨g2,0,none⟩) 64 bc,.bool false] (by rfl) (by rfl) (xF (cs:=#[.int .i64 (R:Int),.slice (some ⟨g2,0,none⟩) 64 bc,.bool false]) (t:=184) (fr:=(0,0)) (zO w2 _)) (by simp[Value.oneCell'])
        (by omega) (by unfold maxLen;omega) (by omega) (by simp;omega) (w2.heap.size+1) (by simp) ?_;intro gg cV w4 ar a5 d4 eA
       obtain⟨dg,bM⟩:=TD.snoc (n:=R) (D:=xD) HO.o H3.o H4.o cP.o d0.o ct.o ce.o a7 b0 ar a5 d4;have b1:∀i,w4.cell? ⟨gw,i,none⟩=wB.cell? ⟨gw,i,none⟩:=λi=>bM.cell af (λh=>dE (m.o gw h).1);have m3:=(b1 0).trans x0;have m4:=(b1 1).trans x1;have cH:=za dg;have aN:=za bM;clear dg bM b1 ar a5 d4))
    all_goals
     refine sL ?_;have dj:LJ kd w a gl F s3 (sq+1) L Q j Z (k+1) (gg,0,(ET.length+1),cV) w4:=by
      refine⟨⟨_,_,aK.o.mem f.o (aN.o.mono (F1:=λi=>G i\/i=gw) (λi _ c=>zu (m.o i c).1)),⟨zu (zu I.o.1),zu (zu I.o.2)⟩,λi c=>?_,by rw[dT.o,<-dh.o];exact cH.o⟩,(aN.o.block j (xB aS.o) (λh=>(m.o j h).2.2 rfl)).trans aS.o,(aN.o.block Q (xB aR.o) (λh=>(m.o Q h).2.1 rfl)).trans aR.o⟩;rcases c with c|c
      .exact⟨zu (zu (m.o i c).1),(m.o i c).2⟩
      .have e1:=xB aR.o;have e2:=xB aS.o;have e3:wB.heap.size<=i:=c.1;exact⟨zw c,by omega,by omega⟩
     have df:=za dj;clear dj m1 m2 m3 m4 x0 x1 cO cP d0 ct ce cH aN HO H3 H4 dh aK aS aR;go_wp2;go_roundw
     .exact⟨k+1,by omega,by go_num,df⟩
     .simp[intOf];omega
   .have ed:N=k:=(by omega);subst ed;obtain⟨s4,b9⟩:=zD (runE s3 (Rd L N));rw[zo (by rw[ah.o];exact zL)]at hT;rw[b9.o]at hC;have am:Hid (s4.W.length<=800037):=(by have O:=Qg s3 (Rd L N);rw[K7,b9.o]at O;have h2:=al.o;show _<=_;omega);have dz:OU (sq+1) L N=UK (sq+1) L:=(by unfold UK;rw[ah.o]);have hh:=T.o.hh;rw[dz]at hh;have HH:=za hh;have de:=za T.o.hz;have HC:=za hC;have I:=za hG;have m:=za aG;have HT:=za hT;clear hC hG aG hT hh dz T;obtain⟨A,u,z,r,d,H⟩:=HC.o.cells;have i3:=zW (6+N) (by omega);have eY:¬N<(N:Int):=(by omega);go_wp2;have C:=HC.o.drew.write f.o (6+N) (by omega) Q 64 zS XX I.o.1 (cur:=(u8s Z).toArray) de.o (by rw[HZ.o];simp[u8s,zS]) (by have:=am.o;omega);rw[show ((6+N:Nat):Int)=6+(N:Int) by omega]at C;have P:=za C;clear C
    go_still_tail 13,(by kernel_rfl)
    go_wp2_with fail
    refine P.o.mono ?_;rintro e wC ⟨rfl,bC,bD⟩;obtain⟨s5,bU⟩:=zD (doE s4 (6+N,zS,false));have aZ:Hid (s5.W.length<=800038):=(by have O:=TE s4 (6+N,zS,false);rw[bU.o]at O;have h2:=am.o;show _<=_;omega);rw[bU.o]at bC;have bI:=za bC;have d2:=za ((bD j I.o.2).trans HH.o);have cz:=za (HT.o.keep (W':=wC) (G':=GT) (λi c=>bD i (m.o i c).1) (λ_ c=>c));clear bC bD HC HH HT de P i3 A u z r d H am;obtain⟨A,u,z,r,d,H⟩:=bI.o.cells;go_wp2_with fail
    refine (bI.o.flush f.o).mono ?_;rintro e wD ⟨rfl,bA,bG⟩;obtain⟨s6,bO⟩:=zD (doE s5 barR);have a8:Hid (s6.W.length<=800039):=(by have O:=TE s5 barR;rw[bO.o]at O;have h2:=aZ.o;show _<=_;omega);rw[bO.o]at bA;have av:=za bA;have cI:=za ((bG j I.o.2).trans d2.o);have dv:=za (cz.o.keep (W':=wD) (G':=GT) (λi c=>bG i (m.o i c).1) (λ_ c=>c));clear bA bG bI d2 cz A u z r d H aZ;have an:∀W,(Instr.makeSlice 38 (.int .i64 64) (.int .i64 64)).run prog W=.ok (.slice (some ⟨W.heap.size,0,none⟩) 64 64) (W.alloc (.cells (u8s Z).toArray 5)):=λW=>(by rw[HZ.o];exact Mj 64 64 rfl (by omega) W);obtain⟨A,u,z,r,d,H⟩:=av.o.cells
    go_upto_region 25 with fail
    clear an;have a4:=zO wD (.cells (u8s Z).toArray 5);have az:=(av.o.below f.o (zB.alloc zL (.cells (u8s Z).toArray 5))).mono (G':=λi=>G i\/i=wD.heap.size) (λi c=>c.imp id (λh=>⟨by omega,by subst h;simp⟩));have ci:∀i,G i->i≠wD.heap.size:=λi c=>(by have:=av.o.own c;omega);have cg:=un cI.o (.cells (u8s Z).toArray 5);have dc:=dv.o.keep (W':=wD.alloc (.cells (u8s Z).toArray 5)) (G':=GT) (λi c=>wN _ _ i (av.o.own (m.o i c).1)) (λ_ c=>c);have ai:=za ci;clear A u z r d H av cI dv ci;generalize wD.alloc (.cells (u8s Z).toArray 5)=wE at *
    generalize wD.heap.size=M at *
    have z0:wE.cell? (M,0)=some (.int .u8 0):=(by rw[zC a4,HZ.o];rfl);have f0:wE.frozen? (M,0)=false:=zF a4;have dx:=xB a4;have bw:=NT (i:=0) a4 (.int .u8 67);rw[nU]at bw;have Y:yK (λi=>G i\/i=M) wE (wE.setCell (M,0) (.int .u8 67)):=yK.setCell (F:=λi=>G i\/i=M) (zw rfl) _;have c5:=(az.mem f.o Y).mono (G':=λi=>G i\/i=M) (λi c=>zu c);have cr:=(yj wE ⟨M,0,none⟩ (.int .u8 67) j (ai.o j I.o.2)).trans cg;have ck:=dc.keep (W':=wE.setCell (M,0) (.int .u8 67)) (G':=GT) (λi c=>yj wE _ _ i (ai.o i (m.o i c).1)) (λ_ c=>c);have bZ:=za bw;have X:=za c5;have aj:=za cr;have c3:=za ck;clear a4 az cg dc bw Y c5 cr ck;go_wp2;obtain⟨A,u,z,r,d,H⟩:=X.o.cells;generalize wE.setCell (M,0) (.int .u8 67)=wF at *
    clear z0 f0 dx;have ao:=za (pF (sq+1) (by omega) (by omega) wF wF.drew (zB.drew) rfl);refine te ?_
    go_region_held_law (λw'=>w'.cell? (gl,3)=some (.int .u32 (sq+1)))
     (first
      | (go_keep;done)
      | exact m1
      | exact m2)
     (first
      | (
       go_at_call 117;refine ao.o.mono ?_;rintro e w9 ⟨rfl,ab,ax⟩
       have m1:=(ab.cell (p:=⟨gl,3,none⟩) d).trans r;have K:=za ab;have ap:=za ax;clear ab ax)
      | (
       refine Rh (some 132) (by rfl) (by rfl) _ _ _ _ (by rfl) 5 u8sT ky M 1 63 63 _ (by rfl) (by rfl) (Z.set 0 67) (uz (sq+1)) 5 (xV K.o bZ.o) ap.o (by simp[uz]) (by simp[uz]) (by rw[HZ.o];simp[uz,zS]) ?_;have q:=X.o.copied f.o K.o (g:=M) (zw rfl) (u8s (over (Z.set 0 67) 1 (uz (sq+1)))).toArray;have aa:=ya w9 M _ (u8s (over (Z.set 0 67) 1 (uz (sq+1)))).toArray _ _ (xV K.o bZ.o);have J:=(yO w9 M j (u8s (over (Z.set 0 67) 1 (uz (sq+1)))).toArray (ai.o j I.o.2)).trans (xV K.o aj.o);have V:=c3.o.keep (W':=w9.setRow M (u8s (over (Z.set 0 67) 1 (uz (sq+1)))).toArray) (G':=GT) (λi c=>(yO w9 M i _ (ai.o i (m.o i c).1)).trans (K.o.block i (X.o.own (zu (m.o i c).1)))) (λ_ c=>c);generalize w9.setRow M (u8s (over (Z.set 0 67) 1 (uz (sq+1)))).toArray=wG at *
       have m2:=q.cells.2.2.2.1;have aM:=za q;have bX:=za aa;have cu:=za J;have d6:=za V;clear q aa J V))
    refine sL ?_;simp only[Act.put,zP,yf,yb];clear m1 m2 ap K X bZ aj c3 ao A u z r d H;have b5:=aM.o.drew.jws dG.o cL.o bP.o;rw[HN.o]at b5;have bq:=X3 _ E wG.drew b5 (by rw[HN.o];omega);rw[HL.o]at bq;have bN:=za (bq.mono (R':=(κ wG (.int .u32 (sumW L)))) λe w' h=>⟨h.1,(xW wG wG).drew.trans h.2⟩);clear bq;have aI:=za (Es L);clear b5;obtain⟨sm,bi⟩:=zD (sumW L);rw[bi.o]at bN aI;go_wp2_with fail
    refine te ?_
    go_region_held_law (λ_=>True)
     (trivial)
     (first
      | (
       go_at_call 118;refine bN.o.mono ?_;rintro e cR ⟨rfl,bj⟩
       have bg:=za bj;clear bj)
      | (
       go_at_call 117;refine (pF sm aI.o.1 aI.o.2 cR cR zB rfl).mono ?_;rintro e aE ⟨rfl,ba,bb⟩
       have S:=za (zi bg.o ba);have aY:=za bb;clear ba bb)
      | (
       refine Rh (some 138) (by rfl) (by rfl) _ _ _ _ (by rfl) 5 u8sT ky M 5 59 59 _ (by rfl) (by rfl) (over (Z.set 0 67) 1 (uz (sq+1))) (uz sm) 5 (xV S.o bX.o) aY.o (by simp[uz]) (by simp[uz]) (by rw[HZ.o,Ph (by simp[zS,uz])];simp[uz,zS]) ?_;have q:=aM.o.copied f.o S.o (g:=M) (zw rfl) (u8s (over (over (Z.set 0 67) 1 (uz (sq+1))) 5 (uz sm))).toArray;have aa:=ya aE M _ (u8s (over (over (Z.set 0 67) 1 (uz (sq+1))) 5 (uz sm))).toArray _ _ (xV S.o bX.o);have J:=(yO aE M j (u8s (over (over (Z.set 0 67) 1 (uz (sq+1))) 5 (uz sm))).toArray (ai.o j I.o.2)).trans (xV S.o cu.o);have V:=d6.o.keep (W':=aE.setRow M (u8s (over (over (Z.set 0 67) 1 (uz (sq+1))) 5 (uz sm))).toArray) (G':=GT) (λi c=>(yO aE M i _ (ai.o i (m.o i c).1)).trans (S.o.block i (aM.o.own (zu (m.o i c).1)))) (λ_ c=>c);generalize aE.setRow M (u8s (over (over (Z.set 0 67) 1 (uz (sq+1))) 5 (uz sm))).toArray=wH at *
       have bQ:=za q;have dp:=za aa;have cT:=za J;have cE:=za V;clear q aa J V))
    refine sL ?_;simp only[Act.put,zP,yf,yb];clear aM bX cu d6 bg S aY bN aI;obtain⟨A,u,z,r,d,H⟩:=bQ.o.cells;have C:=bQ.o.drew.write f.o 5 (by omega) j 64 (UK (sq+1) L) (PR _ _ _) (zu I.o.2) cT.o (by rw[zo (by simp[wd,UK,PR])]) (by have:=a8.o;omega);have P:=za C;clear C;go_wp2_with fail
    go_still_tail 9,(by kernel_rfl)
    go_wp2_with fail
    refine P.o.mono ?_;rintro e wI ⟨rfl,bW,b6⟩;obtain⟨s7,bR⟩:=zD (doE s6 (5,UK (sq+1) L,false));have aA:Hid (s7.W.length<=800040):=(by have O:=TE s6 (5,UK (sq+1) L,false);rw[bR.o]at O;have h2:=a8.o;show _<=_;omega);rw[bR.o]at bW;have bE:=za bW;have cS:=za ((b6 M (zw rfl)).trans dp.o);have cN:=za (cE.o.keep (W':=wI) (G':=GT) (λi c=>b6 i (zu (m.o i c).1)) (λ_ c=>c));clear bW b6 bQ cT dp cE P A u z r d H a8;obtain⟨A,u,z,r,d,H⟩:=bE.o.cells;have i3:=zW (6+N) (by omega);go_wp2_with fail
    have C:=bE.o.drew.write f.o (6+N) (by omega) M 64 (nV (sq+1) sm) (Ml _ _) (zw rfl) cS.o (by rw[HZ.o];show (u8s (nV (sq+1) sm)).take 64=_;rw[zo (by rw[wd,Ml];exact zL)]) (by have:=aA.o;omega);rw[show ((6+N:Nat):Int)=6+(N:Int) by omega]at C;have P:=za C;clear C
    go_still_tail 13,(by kernel_rfl)
    go_wp2_with fail
    refine P.o.mono ?_;rintro e wJ ⟨rfl,bK,dm⟩;obtain⟨s8,bV⟩:=zD (doE s7 (6+N,nV (sq+1) sm,false));have bk:Hid (s8.W.length<=800041):=(by have O:=TE s7 (6+N,nV (sq+1) sm,false);rw[bV.o]at O;have h2:=aA.o;show _<=_;omega);rw[bV.o]at bK;have bu:=za bK;have cY:=za (cN.o.keep (W':=wJ) (G':=GT) (λi c=>dm i (zu (m.o i c).1)) (λ_ c=>c));clear bK dm bE cS cN P A u z r d H aA i3;obtain⟨A,u,z,r,d,H⟩:=bu.o.cells;go_wp2_with fail
    refine (bu.o.flush f.o).mono ?_;rintro e wK ⟨rfl,bv,c7⟩;obtain⟨s9,bB⟩:=zD (doE s8 barR);have cn:Hid (s9.W.length<=800042):=(by have O:=TE s8 barR;rw[bB.o]at O;have h2:=bk.o;show _<=_;omega);rw[bB.o]at bv;have bp:=za bv;have cJ:=za (cY.o.keep (W':=wK) (G':=GT) (λi c=>c7 i (zu (m.o i c).1)) (λ_ c=>c));clear bv c7 bu cY A u z r d H bk;obtain⟨A,u,z,r,d,H⟩:=bp.o.cells;have b2:=za (bp.o.runs ay f.o cJ.o (λx hx=>by obtain⟨y,hy,rfl⟩:=yd.1 hx;exact (HG.o.n y hy).2) (by show (emit L).length<=100;unfold emit;rw[yD,ah.o];omega) (by have:=cn.o;omega));have dR:Hid (runE s9 (Ob (emit L) 0)=runE st (opsJ (sq+1) L)):=(by show _=_;unfold opsJ opsB opsA;rw[PH,PH,PH];show _=runE (doE (doE (doE (doE (doE (runE (doE (doE (doE st barR) (5,zS,false)) barR) (Rd L L.length)) (6+L.length,zS,false)) barR) (5,UK (sq+1) L,false)) (6+L.length,nV (sq+1) (sumW L),false)) barR) _;rw[ah.o,bi.o,cW.o,dr.o,cF.o,b9.o,bU.o,bO.o,bR.o,bV.o,bB.o]);rw[dR.o]at b2;go_wp2_with fail
    refine b2.o.mono ?_;rintro e wL ⟨rfl,cM⟩;have dU:=za cM;clear cM bp cJ b2 A u z r d H;go_wp2;go_ret;exact⟨rfl,dU.o⟩
 rw[<-HL.o]at a3;exact a3
def opsC (sq:Int) (L:List Wr):List Rb:=if L=[] then [barR] else opsJ (sq+1) L
def seqC (sq:Int) (L:List Wr):Int:=if L=[] then sq else sq+1
theorem XN (f:64<=kd) (g:kd<=256) (h:CS kd w a gl F st sq (λ_=>False) w) (d:¬F gl/\gl<w.heap.size) (v) (E) (k:qJ w b B v E) (l:∀x∈E,Th F gl x.v) (i:Th F gl v) (m:YB kd (E.map jab)) (j:0<=sq/\sq<=1000) (n:st.W.length<800000):
 Calls prog 74 #[(gl,()),v] w <|ρ () λw'=>CS kd w a gl F (runE st (opsC sq (E.map jab))) (seqC sq (E.map jab)) (λ_=>False) w':=by
 cases E with
 | nil=>
  obtain⟨p,c,rfl,_⟩:=SV (uq.of_owns k.1);exact Cq h d p c
 | cons x E=>
  have:=VV f g h d v (x::E) k l i m (by simp) j n;unfold opsC seqC;rw[zb (by simp),zb (by simp)];exact this
