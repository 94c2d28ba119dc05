import Derived.Test.YtakfhadmokoikaaGreatDoorKA19
import Derived.Test.YtakfhadmokoikaaGreatDoorKA21
import Derived.Maps.Own
import Derived.Maps.OwnOps
set_option maxHeartbeats 0
set_option linter.all false
set_option maxRecDepth 100000
namespace Go.Proofs.YtakfhadmokoikaaGreatDoor
open Go.Proofs.Tryz Go.RowKit Go.Sort Go.Shelf
abbrev Js:=Fin 256×Option Addr×Nat×Nat
def encS (x:Js):List Value:=[.int .i64 (x.1.val:Int),.slice x.2.1 x.2.2.1 x.2.2.2]
def cfS (x y:Js):Int:=(x.1.val:Int)-(y.1.val:Int)
theorem Vx (x:Js):(encS x).length=2:=rfl
theorem RY (x:Js):∀v∈encS x,v.oneCell'=true:=by intro v a;simp[encS]at a;rcases a with rfl|rfl<;>rfl
theorem TC: SWO (ltOf cfS) where
 irrefl x:=by unfold ltOf cfS;simp
 trans x y z h1 h2:=by unfold ltOf cfS at *;simp at *;omega
 ntrans x y z h1 h2:=by unfold ltOf cfS at *;simp at *;omega
theorem Qb (x y:Js) (W:World):
 Calls prog 97 #[.agg (encS x).toArray,.agg (encS y).toArray] W fun e w'=>e=.returned (.int .i64 (cfS x y))/\∃q os',w'=grow (W.drewN q) os':=by
 unfold cfS encS;obtain⟨⟨a,m⟩,l,k,i⟩:=x;obtain⟨⟨b,h⟩,j,g,f⟩:=y;have d:=zW ((a:Int)-(b:Int));have c:¬W.heap.size=W.heap.size+1:=by omega
 go_enter func97,ntmps97
 go_wp2;go_ret;exact⟨rfl,0,_,by rw[alloc_eq_grow,alloc_eq_grow,grow_grow];rfl⟩
def SortS (base:Nat) (v:Value) (O:List Js) (W:World) (e:Ending) (w':World):Prop:=e=.returned (.tuple #[])/\∃T:List Js,T.Perm O/\T.Pairwise (fun a b=>a.1.val<=b.1.val)/\w'.ownsRow base 163 2 v O.length (T.flatMap encS)/\W.grownBy w' v.ownBlock
theorem Uj: ∀(args:Array Value) (w:World),(callFunc 97 args).run prog w=.ok (.enter 97 args) w:=enters_of func97 (by kernel_rfl) rfl
theorem QP (V:Nat) (v:Value) (O:List Js) (W:World) (X:W.ownsRow V 163 2 v O.length (O.flatMap encS)) (Y:O.length<=1000000):
 Calls prog 96 #[v,.func (.func 97) #[] #[]] W (SortS V v O W):=by
 have d:=X;obtain⟨T,⟨rfl,P⟩|⟨g,f,t,rfl,J,c,F,Q,D,I⟩⟩:=X
 .have K:O=[]:=yG.1 P;refine (AnyF.slices_SortFunc_none Tryz.laysSortW none 0 (.func (.func 97) #[] #[]) W).mono fun e H ⟨w,B⟩=>⟨w,O,jS _,?_,?_,?_⟩
  .rw[K];exact List.Pairwise.nil
  .rw[B];exact d
  .rw[B];exact⟨rfl,rfl,rfl,zL,fun _ _ _=>rfl⟩
 .have a:O.toArray.size=O.length:=by simp
  have M:HoldsK encS 2 W g 0 O.toArray:=Kc Vx c (by rw[a];exact I);have o:CmpLays prog 97 #[] encS 2 cfS g 0 O.toArray.size W:=fun m os U _ x y=>Qb x y _;have h:=AnyQ.slices_SortFunc Tryz.laysSortW 2 isAgg163 sizeOf163 encS Vx RY cfS TC 97 #[] g 0 f O.toArray W Uj o M (xL c) (by rw[a];omega);rw[a]at h;refine h.mono ?_;rintro e H ⟨w,b,n,os,C,z,rfl⟩;have q:b.size=O.length:=by rw[C.1,a]
  have l:b.toList.length=O.length:=by simpa using q
  have u:b.size*2<=t.size:=by rw[q,D];exact qI _ F
  obtain⟨p,G,R,A⟩:=KY (enc:=encS) (k:=2) Vx (m:=n) (os:=os) c u;refine⟨w,b.toList,?_,?_,?_,KX⟩
  .have:=C.2.2;have S:(b.extract 0 O.length).toList=b.toList:=(by rw[<-q];simp);have L:(O.toArray.extract 0 O.length).toList=O:=(by simp);rw[S,L]at this;exact this
  .rw[wv];intro i j N E r;rw[l]at N E;have s:=z i j zZ r E;rw[ul b i (by omega),ul b j (by omega)]at s;unfold ltOf cfS at s;simp at s;rw[ud,ud];omega
  .refine⟨by rw[LN Vx,l],zu ⟨g,f,p,rfl,J,G,F,Q,by rw[R];exact D,?_⟩⟩;rw[q]at A;exact A
theorem TA (h:Nat):SWO (ltOf (cfK h)) where
 irrefl x:=by unfold ltOf cfK;simp
 trans x y z h1 h2:=by unfold ltOf cfK at *;simp at *;omega
 ntrans x y z h1 h2:=by unfold ltOf cfK at *;simp at *;omega
theorem QO: WJ:=by
 intro p h G v O W V d a hl;have o:=d;obtain⟨h0,⟨rfl,hn⟩|⟨g,q,C,rfl,R,c,M,hm,K,Q⟩⟩:=d
 .have T:O=[]:=yG.1 hn;refine (AnyF.slices_SortFunc_none Tryz.laysSortR none 0 (.func (.func 209) #[] #[(p,())]) W).mono fun e P ⟨E,I⟩=>⟨E,O,jS _,?_,?_,?_⟩
  .rw[T];exact List.Pairwise.nil
  .rw[I];exact o
  .rw[I];exact⟨rfl,rfl,rfl,zL,fun _ _ _=>rfl⟩
 .have b:O.toArray.size=O.length:=by simp
  have X:HoldsK encK 3 W g 0 O.toArray:=Kc Vz c (by rw[b];simpa using Q);have z:p≠g:=tj a c (by decide);have s:CmpLays prog 209 #[(p,())] encK 3 (cfK h) g 0 O.toArray.size W:=fun m os Y _ x y=>TB p h V x y _ (by rw[cell?_sortWorldK_other encK 3 W g 0 m Y os ⟨p,0,none⟩ z (xL a)];exact zC a);have S:∀args w,(callFunc 209 args).run prog w=.ok (.enter 209 args) w:=enters_of func209 (by kernel_rfl) rfl;have r:=AnyQ.slices_SortFunc Tryz.laysSortR 3 isAgg165 sizeOf165 encK Vz RZ (cfK h) (TA h) 209 #[(p,())] g 0 q O.toArray W S s X (xL c) (by rw[b];omega);rw[b]at r;refine r.mono ?_;rintro e P ⟨E,f,n,os,J,F,rfl⟩;have u:f.size=O.length:=by rw[J.1,b]
  have l:f.toList.length=O.length:=by simpa using u
  have D:f.size*3<=C.size:=by rw[u,K];exact qI _ M
  obtain⟨t,N,k2,H⟩:=KY (enc:=encK) (k:=3) Vz (m:=n) (os:=os) c D;refine⟨E,f.toList,?_,?_,?_,KX⟩
  .have:=J.2.2;have e1:(f.extract 0 O.length).toList=f.toList:=(by rw[<-u];simp);have U:(O.toArray.extract 0 O.length).toList=O:=(by simp);rw[e1,U]at this;exact this
  .rw[wv];intro i j Z L A;rw[l]at Z L;have B:=F i j zZ A L;rw[ul f i (by omega),ul f j (by omega)]at B;unfold ltOf cfK at B;simp at B;rw[ud,ud];omega
  .rw[l];refine⟨by rw[LN Vz,l],zu ⟨g,q,t,rfl,R,N,M,hm,by rw[k2];exact K,?_⟩⟩;rw[u]at H;exact H
end Go.Proofs.YtakfhadmokoikaaGreatDoor
namespace Go.Proofs.YtakfhadmokoikaaGreatDoor
open Go.Proofs.Tryz Go.RowKit
variable {F:Nat->Prop} {a:Addr} {base gl k kd:Nat} {d:Value} {sq:Int} {st:Dk} {w w3 wr:World} {x:Rq}
theorem Pp (v:Value) (E:List Rq) (h:Nat) (a:h<256) (w:World) (b:rx w v E) (c:∀x∈E,RqOk w x) (d:E.length<=100):
 Calls prog 135 #[v,h] w (LX (E.map rab) h w):=Po QO v E h a w b c d
theorem lS {B:Nat} {a:World} (h:Below B a w) (n:Nat):Below B a (w.drewN n):=⟨h.os,h.tape,h.output,h.size,h.block⟩
theorem uL.drewN (h:uL w d st k F) (n:Nat):uL (w.drewN n) d st k F:=h.keep (G:=fun _=>False) ⟨rfl,rfl,rfl,zL,fun _ _ _=>rfl⟩ (fun _ _ h=>h)
theorem rb_of (h:RqOk w x) (f:x.b=false->x.n<k):RbOk k (rab x):=by
 rcases h with⟨a,_⟩|⟨a,d,e,c⟩
 .exact zt a
 .exact zu ⟨f a,c⟩
theorem SS (a:k<=256) {l:List Rb} (b:∀x∈l,RbOk k x):∀x∈pM l 0,RbOk k x:=(QU a l 0 (by omega) (tJ k) (RD k) b).2
theorem Did.start {w':World} (h:uL w d st k F) (a:Below w w w'):Did d st k F w' w':=⟨F,h.below a,fun _ h=>zt h,yK.refl _ _⟩
theorem UE (h:ml w3 base x) (j:x.b=false) (k:yK F w3 wr) (l:∀i,F i->i<base):∃gx cx cur,x.v=.slice (some ⟨gx,0,none⟩) 64 cx/\base<=gx/\gx<w3.heap.size/\x.D.length=64/\wr.heap[gx]?=some (.cells cur 5)/\cur.toList.take 64=u8s x.D:=by
 rcases h with⟨f,_⟩|⟨_,_,g,gx,cx,cur,d,c,a,e⟩
 .rw[j]at f;cases f
 .exact⟨gx,cx,cur,d,c.1,xL a,g,(k.block gx (xL a) (fun h=>by have:=l gx h;have:=c.1;omega)).trans a,e⟩
theorem UD (h:uL w (.pointer (some a)) st k F) (v:Value) (E:List Rq) (hv:rx w v E) (hE:∀x∈E,RqOk w x) (hk:∀x∈E,x.b=false->x.n<k) (a2:k<=256) (hl:E.length<=100) (hW:st.W.length<900000):
 Calls prog 95 #[.pointer (some a),v] w fun e w'=>e=.returned ()/\Did (.pointer (some a)) (runE st (pM (E.map rab) 0)) k F w w':=by
 have HD:=Lib.hid h;have aO:=Lib.hid h.fin;have HE:=Lib.hid hE;have HK:=Lib.hid hk;have V:=Lib.hid (fun W (hW:Below w w W)=>Pp v E 0 (by omega) W (hv.below hW) (fun x hx=>(hE x hx).below hW) hl);unfold LX at V;have aG:Hid (∀x∈pM (E.map rab) 0,RbOk k x):=SS a2 fun x hx=>by obtain⟨y,hy,rfl⟩:=zV.1 hx;exact rb_of (hE y hy) (hk y hy)
 have ao:(pM (E.map rab) 0).length<=E.length:=by have:=KB (E.map rab) 0 (by omega);rw[yw]at this;exact this
 obtain⟨p,cp,rfl,HP⟩:=gA hv.row;obtain⟨N,HN⟩:=zD E.length;rw[HN.o]at hl HP V ao;rw[HN.o];generalize pM (E.map rab) 0=O at *
 clear hv hE hk h;go_enter func95,ntmps95;go_wp2;go_loopw [14] (fun i wr=>∃j:Nat,j<=N/\i=.int .i64 j/\Below w w wr) (fun i _=>N-(intOf i).toNat);case atStart=>exact⟨0,ye _,rfl,zB⟩
 case round=>
  obtain⟨j,hj,rfl,C⟩:=hrel;by_cases G:j<N
  .obtain⟨g,o,rfl,z,t⟩:=HP.o (by omega);have m:j<E.length:=(by rw[HN.o];exact G);obtain⟨e0,e1,e2⟩:=fJ E j m;obtain⟨px,lx,R,a7,_,aQ⟩:=(HE.o E[j] (zz m)).shape;rw[a7]at e1;have c0:=(C.cell (p:=⟨g,o+j*3,none⟩) z).trans (t _ _ e0);have c1:=(C.cell (p:=⟨g,o+(j*3+1),none⟩) z).trans (t _ _ e1);have c2:=(C.cell (p:=⟨g,o+(j*3+2),none⟩) z).trans (t _ _ e2);rw[<-yA]at c1 c2;have f:=HK.o E[j] (zz m);obtain⟨r,A⟩:=zD (E[j].n);obtain⟨xb,d⟩:=zD (E[j].b);rw[A.o]at c0 aQ f;rw[d.o]at c2 f;have a9:(j:Int)<(N:Int):=(by omega);have aM:g<wr.heap.size:=zm z C.size;have aJ:¬g=wr.heap.size:=(by omega);have Q:Hid (Below w w (wr.alloc (.cells #[r,(px,lx,R),.bool xb] 165))):=C.alloc C.size _;have aT:Hid (∀n,Calls prog 48 #[.pointer (some a)] ((wr.alloc (.cells #[r,(px,lx,R),.bool xb] 165)).drewN n) fun e w'=>e=.returned k/\w'=(wr.alloc (.cells #[r,(px,lx,R),.bool xb] 165)).drewN n):=fun n=>(mC ((HD.o.below Q.o).drewN n)).mono fun e w' h=>⟨h.1,h.2.symm⟩;clear t e0 e1 e2 a7;cases xb with
   | true=>
    clear f;go_wp2
    go_quiet (fail)
    go_wp2;go_roundw;case rel=>exact⟨j+1,by omega,by go_num,lS Q.o _⟩
    case measure=>simp[intOf];omega
   | false=>
    have ba:=f rfl;have b1:decide ((r:Int)<0)=false:=(by rw[zJ];omega);have b2:decide ((k:Int)<=(r:Int))=false:=(by rw[zJ];omega);have b3:¬(k:Int)<=(r:Int):=(by omega);have b4:¬k<=r:=(by omega);clear f;go_wp2
    go_quiet ((go_at_call 48;exact xQ (aT.o _)))
    go_wp2;go_roundw;case rel=>exact⟨j+1,by omega,by go_num,lS Q.o _⟩
    case measure=>simp[intOf];omega
  .go_wp2_with fail
   refine (V.o _ C).mono ?_;rintro e J ⟨v3,rfl,a6,aw⟩;have az:Hid (Below w w J):=Below.step C aw;have aX:Hid (Did (.pointer (some a)) (runE st (O.take 0)) k F J J):=Did.start HD.o az.o;have a5:=C.size;obtain⟨B,am⟩:∃B,wr.heap.size=B:=⟨_,rfl⟩;rw[am]at a5 a6;have aq:∀i,F i->i<B:=fun i hi=>zm (aO.o i hi) a5;obtain⟨c,K,Y,a1⟩:=a6;have M:=iC K;obtain⟨q,bf,rfl,hq⟩:=tR Y;obtain⟨L,HL⟩:=zD c.length;have HQ:Hid (0<L->∃g,q=some ⟨g,0,none⟩/\g<J.heap.size/\B<=g/\∀(j:Nat) (x:Value),(uU c)[j]?=some x->J.cell? ⟨g,j,none⟩=some x):=fun h0=>(by obtain⟨g,rfl,z,t⟩:=hq (by rw[HL.o];exact h0);exact⟨g,rfl,(Y.lt g rfl).2,z,t⟩);rw[HL.o];rw[HL.o]at M;have aL:L<=100:=(by omega);have aR:=Lib.hid K;have aP:=Lib.hid a1;have aa:=Lib.hid aq;have ai:=Lib.hid M;have aH:=Lib.hid hW;clear K Y a1 hq aw aq M ao am C;go_wp2;go_loopw [44] (fun i wq=>∃j:Nat,j<=L/\i=.int .i64 j/\Hid (Did (.pointer (some a)) (runE st (O.take j)) k F J wq)) (fun i _=>L-(intOf i).toNat);case atStart=>exact⟨0,ye _,rfl,aX⟩
   case round=>
    obtain⟨j,hj,rfl,HR⟩:=hrel;by_cases G:j<L
    .obtain⟨g,rfl,z,bn,t⟩:=HQ.o (by omega);have m:j<c.length:=(by rw[HL.o];exact G);have ae:j<O.length:=(by rw[<-ai.o];exact G);obtain⟨F',ap,ar,s⟩:=HR.o;obtain⟨e0,e1,e2⟩:=fJ c j m;have U:¬F g:=fun h=>(by have:=aa.o g h;omega);have c0:=(s.cell z U).trans (t _ _ e0);have c2:=(s.cell z U).trans (t _ _ e2);have c1:=(s.cell z U).trans (t _ _ e1);have ac:rab c[j]=O[j]:=(by have h1:(c.map rab)[j]?=O[j]? :=(by rw[aR.o]);rw[xy,zf m,zf ae]at h1;simpa using h1);have ab:=aG.o O[j] (zz ae);rw[<-ac]at ab;have ak:Hid (runE st (O.take (j+1))=doE (runE st (O.take j)) (rab c[j])):=(by show _=_;rw[<-zY ae,L5,ac]);have a0:=aP.o c[j] (zz m);have aM:g<wr.heap.size:=zm z s.size;have aJ:¬g=wr.heap.size:=(by omega);have a9:(j:Int)<(L:Int):=(by omega);have a4:(runE st (O.take j)).W.length<1000000:=(by have h1:=gK st (O.take j);have h2:=List.length_take_le j O;have h3:=aH.o;omega);have ax:=Lib.hid a0;have aI:=Lib.hid ab;have av:=Lib.hid ap;have S:=Lib.hid ar;have T:=Lib.hid s;have aU:=Lib.hid a4;clear t e0 e1 e2 ac a0 ap ar s ab HR a4;obtain⟨xb,d⟩:=zD (c[j].b);obtain⟨r,A⟩:=zD (c[j].n);rw[d.o]at c2;rw[A.o]at c0;cases xb with
     | true=>
      have an:c[j].v=.slice none 0 0:=by
       rcases ax.o with⟨_,_,h,_⟩|⟨h,_⟩
       .exact h
       .rw[d.o]at h;cases h
      rw[an]at c1;have P:=Lib.hid (av.o.below (zB.alloc zL (.cells #[r,.slice none 0 0,.bool true] 165)));have X:Hid (doE (runE st (O.take j)) (rab c[j])=pN (runE st (O.take j))):=(by show _=_;unfold doE;rw[ze (show (rab c[j]).2.2=true from d.o)]);clear an;go_wp2_with fail
      refine (LM P.o).mono ?_;rintro e wq ⟨rfl,l⟩;have Z:Hid (Did (.pointer (some a)) (runE st (O.take (j+1))) k F J wq):=(by show Did _ _ _ _ _ _;rw[ak.o,X.o];exact Did.trans (T.o.step (yK.alloc _)) S.o l);clear l;go_wp2;go_roundw;case rel=>exact⟨j+1,by omega,by go_num,Z⟩
      case measure=>simp[intOf];omega
     | false=>
      obtain⟨I,R,be,a3,au,al,u,ad,aj⟩:=UE ax.o d.o T.o aa.o;rw[a3]at c1;have f:r<k:=by
       rcases aI.o with h|⟨h,_⟩
       .rw[show (rab c[j]).2.2=c[j].b from rfl,d.o]at h;cases h
       .rw[<-A.o];exact h
      have H:¬F' I:=fun h=>by
       rcases S.o I h with h|h
       .have:=aa.o I h;omega
       .omega
      have a8:I<(wr.alloc (.cells #[r,.slice (some ⟨I,0,none⟩) 64 R,.bool false] 165)).heap.size:=(by have:=xL ad;simp;omega);have P:=Lib.hid (av.o.below (zB.alloc zL (.cells #[r,.slice (some ⟨I,0,none⟩) 64 R,.bool false] 165)));have aE:=Lib.hid (jx P.o r f (.slice (some ⟨I,0,none⟩) 64 R) c[j].D u (fun w' hk=>qZ u ((hk.block I a8 H).trans (tf ad _)) aj) aU.o);have X:Hid (doE (runE st (O.take j)) (rab c[j])=tV (runE st (O.take j)) r c[j].D):=(by show _=_;unfold doE;rw[zb (by rw[show (rab c[j]).2.2=c[j].b from rfl,d.o];simp),<-A.o];rfl);clear a3 au al u ad aj f H a8;go_wp2_with fail
      refine aE.o.mono ?_;rintro e wq ⟨rfl,l⟩;have Z:Hid (Did (.pointer (some a)) (runE st (O.take (j+1))) k F J wq):=(by show Did _ _ _ _ _ _;rw[ak.o,X.o];exact Did.trans (T.o.step (yK.alloc _)) S.o l);clear l;go_wp2;go_roundw;case rel=>exact⟨j+1,by omega,by go_num,Z⟩
      case measure=>simp[intOf];omega
    .have HT:Hid (O.take j=O):=zv (by rw[<-ai.o];omega);rw[HT.o]at HR;go_wp2;go_ret;exact⟨rfl,Did.trans (yK.of_below az.o) (fun _ h=>zt h) HR.o⟩
def okO (N:List Int):Bool:=oZ N&&qT N
def seqO (N:List Int):Int:=if oZ N=true then mE N else 0
def qU (N:List Int):List Wr:=if okO N=true then lh N (pU N) else []
def li (st:Dk):Dk:=runE st (emit (qU st.N))
def mY (kd:Nat) (x:Wr):Prop:=x.1<kd/\(x.1<5\/37<=x.1)
def logC (a:Addr) (sq:Int):Array Value:=#[.pointer (some a),.int .i64 5,.int .i64 32,.int .u32 sq]
def kM (kd:Nat) (a:Addr) (st:Dk) (sq:Int) (F:Nat->Prop) (gl:Nat) (w w':World):Prop:=
 ∃F',uL w' (.pointer (some a)) st kd F'/\(∀i,F' i->F i\/w.heap.size<=i)/\¬F' gl/\yK F w w'/\w'.heap[gl]?=some (.cells (logC a sq) 159)
theorem NZ (P:List Wr) (x:Wr):emit (P++[x])=emit P++[(x.1,x.2,false)]:=by unfold emit;rw[yB];rfl
theorem Ko (st:Dk) (n:Nat) (D:List Int):doE st (n,D,false)=tV st n D:=by unfold doE;rw[zb (by simp)]
theorem I5 (st:Dk) (P:List Wr) (x:Wr):runE st (emit (P++[x]))=tV (runE st (emit P)) x.1 x.2:=by rw[NZ,L5,Ko]
theorem Ta {x:Jw} (h:qW w3 base x) (e:yK F w3 wr) (f:∀i,F i->i<base):∃gx cx cur,x.v=.slice (some ⟨gx,0,none⟩) 64 cx/\base<=gx/\gx<w3.heap.size/\wr.heap[gx]?=some (.cells cur 5)/\cur.toList.take 64=u8s x.D:=by obtain⟨_,_,gx,cx,cur,c,b,a,d⟩:=h;exact⟨gx,cx,cur,c,b.1,xL a,(e.block gx (xL a) (fun h=>by have:=f gx h;have:=b.1;omega)).trans a,d⟩
theorem UT (an:64<=kd) (ao:kd<=256) (h:uL w (.pointer (some a)) st kd F) (hN:ue st.N) (hg:∀x∈qU st.N,mY kd x) (hW:st.W.length<900000):
 Calls prog 51 #[.pointer (some a),(5:Int),(32:Int)] w fun e w'=>∃gl,e=.returned (.tuple #[(gl,()),()])/\w.heap.size<=gl/\kM kd a (li st) (seqO st.N) F gl w w':=by
 have HD:=Lib.hid h;have ag:=Lib.hid h.fin;have aq:=Lib.hid (Sv an ao h hN);have av:=Lib.hid hg;have a5:=Lib.hid hW;clear h hN hg hW;go_enter func51,ntmps51;go_wp2_with fail
 refine aq.o.mono ?_;intro e l P;unfold iX at P;have y:∀(l:World) (sq:Int),Below w w l->okO st.N=false->seqO st.N=sq->kM kd a (li st) (seqO st.N) F l w (l.alloc (.cells (logC a sq) 159)):=fun l sq f G a8=>by
  have e:li st=st:=by unfold li qU;rw[G,zb (by simp)];rfl
  rw[e,a8];refine⟨F,(HD.o.below f).below (zB.alloc zL _),fun _ h=>zt h,fun h=>?_,(yK.of_below f).step (yK.alloc _),zH⟩;have h1:=ag.o _ h;have h2:=f.size;omega
 rcases P with⟨t,rfl,f⟩|⟨t,s2,rfl,f⟩|⟨t,s2,v,E,rfl,hE,hJ,f⟩
 .have A:=Lib.hid (y l 0 f (by unfold okO;rw[t];rfl) (by unfold seqO;rw[zb (by rw[t];simp)]));have u:=Lib.hid f;clear y f t;go_wp2;go_ret2;exact⟨_,rfl,u.o.size,A.o⟩
 .have A:=Lib.hid (y l (mE st.N) f (by unfold okO;rw[s2];simp) (by unfold seqO;rw[ze t]));have u:=Lib.hid f;clear y f t s2;go_wp2;go_ret2;exact⟨_,rfl,u.o.size,A.o⟩
 .have G:okO st.N=true:=by unfold okO;rw[t,s2];rfl
  have R:Hid (qU st.N=E.map jab):=by show _=_;unfold qU;rw[ze G,hE]
  have aF:Hid (seqO st.N=mE st.N):=by show _=_;unfold seqO;rw[ze t]
  have aE:Hid (li st=runE st (emit (E.map jab))):=by show _=_;unfold li;rw[R.o]
  have ah:Hid (∀x∈E,mY kd (jab x)):=fun x hx=>av.o _ (by rw[R.o];exact zV.2 ⟨x,hx,rfl⟩);have aH:E.length<=30:=by have h1:=congrArg List.length hE;rw[yw,L3]at h1;unfold oZ at t;simp only[yM,xo]at t;omega
  obtain⟨p,cp,rfl,HP⟩:=WE (xT.of_owns hJ.1);obtain⟨N,C⟩:=zD E.length;rw[C.o]at HP aH;rw[C.o];have ae:=Lib.hid hJ.2;have aj:=Lib.hid hJ.1;have B:=Lib.hid f;generalize mE st.N=sq at *
  clear hJ f hE t s2 G y aq av R;go_wp2;go_loopw [31] (fun i wr=>∃k:Nat,k<=N/\i=.int .i64 k/\Hid (Below l l wr)) (fun i _=>N-(intOf i).toNat);case atStart=>exact⟨0,ye _,rfl,zB⟩
  case round=>
   obtain⟨k,hk,rfl,u⟩:=hrel;by_cases H:k<N
   .obtain⟨g,o,rfl,hg,X⟩:=HP.o (by omega);have d:k<E.length:=(by rw[C.o];exact H);obtain⟨I,M⟩:=Zw E k d;have s:=ah.o E[k] (zz d);obtain⟨px,V,Z⟩:=(qW.ok (ae.o E[k] (zz d))).shape;generalize E[k]=x at I M s Z;obtain⟨b,xv,xD⟩:=x;dsimp only at Z I M;subst Z;have c0:=(u.o.cell (p:=⟨g,o+k*2,none⟩) hg).trans (X _ _ I);have c1:=(u.o.cell (p:=⟨g,o+(k*2+1),none⟩) hg).trans (X _ _ M);rw[<-yA]at c1;obtain⟨Q,K⟩:b<kd/\(b<5\/37<=b):=s;have au:(k:Int)<(N:Int):=(by omega);have a7:g<wr.heap.size:=zm hg u.o.size;have a6:¬g=wr.heap.size:=(by omega);have T:Hid (Below l l (wr.alloc (.cells #[b,.slice px 64 V] 163))):=u.o.alloc u.o.size _;have am:Hid (∀n,Calls prog 48 #[.pointer (some a)] ((wr.alloc (.cells #[b,.slice px 64 V] 163)).drewN n) fun e w'=>e=.returned (.int .i64 ((kd:Nat):Int))/\w'=(wr.alloc (.cells #[b,.slice px 64 V] 163)).drewN n):=fun n=>(mC ((HD.o.below (Below.step B.o T.o)).drewN n)).mono fun e w' h=>⟨h.1,h.2.symm⟩;have d1:decide ((kd:Int)<=(b:Int))=false:=(by rw[zJ];omega);have aS:decide (kd<=b)=false:=(by rw[zJ];omega);clear X I M;by_cases h2:b<5
    .have d2:decide ((5:Int)<=(b:Int))=false:=(by rw[zJ];omega);have aC:decide (5<=b)=false:=(by rw[zJ];omega);clear h2 K;go_wp2
     go_quiet ((go_at_call 48;exact xQ (am.o _)))
     go_wp2;go_roundw;case rel=>exact⟨k+1,by omega,by go_num,lS T.o _⟩
     case measure=>simp[intOf];omega
    .have h8:37<=b:=(by omega);have d2:decide ((5:Int)<=(b:Int))=true:=(by rw[yJ];omega);have aC:decide (5<=b)=true:=(by rw[yJ];omega);have d3:decide ((b:Int)<37)=false:=(by rw[zJ];omega);have aR:decide (b<37)=false:=(by rw[zJ];omega);clear h2 K;go_wp2
     go_quiet ((go_at_call 48;exact xQ (am.o _)))
     go_wp2;go_roundw;case rel=>exact⟨k+1,by omega,by go_num,lS T.o _⟩
     case measure=>simp[intOf];omega
   .have aK:Hid (Did (.pointer (some a)) (runE st (emit ((E.take 0).map jab))) kd F l wr):=
     ⟨F,HD.o.below (Below.step B.o u.o),fun _ h=>zt h,yK.of_below u.o⟩
    have ad:∀i,F i->i<w.heap.size:=ag.o;have Y:=Lib.hid ad;have aQ:decide (k<N)=false:=(by rw[zJ];exact H);clear u ad;go_wp2;go_loopw [57] (fun i wq=>∃j:Nat,j<=N/\i=.int .i64 j/\Hid (Did (.pointer (some a)) (runE st (emit ((E.take j).map jab))) kd F l wq)) (fun i _=>N-(intOf i).toNat);case atStart=>exact⟨0,ye _,rfl,aK⟩
    case round=>
     obtain⟨j,hj,rfl,HR⟩:=hrel;by_cases H:j<N
     .obtain⟨g,o,rfl,hg,X⟩:=HP.o (by omega);have d:j<E.length:=(by rw[C.o];exact H);obtain⟨F',q,r,c⟩:=HR.o;obtain⟨I,M⟩:=Zw E j d;have aW:w.heap.size<=g:=(aj.o.lt g rfl).1;have ac:¬F g:=fun h=>(by have:=Y.o g h;omega);have c0:=(c.cell hg ac).trans (X _ _ I);have c1:=(c.cell hg ac).trans (X _ _ M);rw[<-yA]at c1;have s:=ah.o E[j] (zz d);have m:=ae.o E[j] (zz d);have U:Hid (runE st (emit ((E.take (j+1)).map jab))=tV (runE st (emit ((E.take j).map jab))) E[j].n E[j].D):=(by show _=_;rw[<-zY d,yB];exact I5 _ _ _);generalize E[j]=x at I M c0 c1 s m U;obtain⟨b,xv,xD⟩:=x;obtain⟨L,V,aO,ak,ai,ab,aa,S⟩:=Ta m c Y.o;dsimp only at ak c0 c1 U S;subst ak;have Q:b<kd:=s.1;have z:xD.length=64:=m.2.1;have a7:g<wr.heap.size:=zm hg c.size;have a6:¬g=wr.heap.size:=(by omega);have au:(j:Int)<(N:Int):=(by omega);have al:(runE st (emit ((E.take j).map jab))).W.length<1000000:=(by have h1:=gK st (emit ((E.take j).map jab));rw[show (emit ((E.take j).map jab)).length=(E.take j).length by simp[emit]]at h1;have h2:=List.length_take_le j E;have h3:=a5.o;omega);have J:¬F' L:=fun h=>by
       rcases r L h with h|h
       .have:=Y.o L h;omega
       .omega
      have ar:L<(wr.alloc (.cells #[b,.slice (some ⟨L,0,none⟩) 64 V] 163)).heap.size:=(by have:=xL aa;simp;omega);have a1:=Lib.hid (q.below (zB.alloc zL (.cells #[b,.slice (some ⟨L,0,none⟩) 64 V] 163)));have az:=Lib.hid (jx a1.o b Q (.slice (some ⟨L,0,none⟩) 64 V) xD z (fun w' hk=>qZ z ((hk.block L ar J).trans (tf aa _)) S) al);have a2:=Lib.hid r;have a4:=Lib.hid c;clear X I M q r c s m ai ab z aa S J ar al HR;go_wp2_with fail
      refine az.o.mono ?_;rintro e wq ⟨rfl,O⟩;have aB:Hid (Did (.pointer (some a)) (runE st (emit ((E.take (j+1)).map jab))) kd F l wq):=(by show Did _ _ _ _ _ _;rw[U.o];exact Did.trans (a4.o.step (yK.alloc _)) a2.o O);clear O;go_wp2;go_roundw;case rel=>exact⟨j+1,by omega,by go_num,aB⟩
      case measure=>simp[intOf];omega
     .have HT:Hid (E.take j=E):=zv (by rw[C.o];omega);rw[HT.o,<-aE.o]at HR;obtain⟨F',q,r,c⟩:=HR.o;have A:Hid (kM kd a (li st) (seqO st.N) F wr w (wr.alloc (.cells (logC a sq) 159))):=by
       show kM _ _ _ _ _ _ _ _;rw[aF.o];refine⟨F',q.below (zB.alloc zL _),fun i hi=>?_,fun h=>?_,((yK.of_below B.o).step c).step (yK.alloc _),zH⟩
       .rcases r i hi with h|h
        .exact zt h
        .exact zu (zr B.o.size h)
       .have:=q.fin _ h;omega
      have a3:w.heap.size<=wr.heap.size:=zr B.o.size c.size;clear q r c HR;go_wp2;go_ret2;exact⟨_,rfl,a3,A.o⟩
open Go.Maps
def mapS (S:List Nat):DataW Value:=S.foldl (fun D n=>D.put (keyL n) (.held (.bool true))) (.map [])
theorem Ka (S:List Nat) (n:Nat):mapS (S++[n])=(mapS S).put (keyL n) (.held (.bool true)):=by unfold mapS;rw[xF];rfl
theorem U2 (S:List Nat):∀k,k<=S.length->IsMap (mapS (S.take k))/\∀n,(mapS (S.take k)).atKey (keyL n) (.held (.bool false))=.held (.bool ((S.take k).contains n)):=by
 intro k
 induction k with
 | zero=>intro _;exact⟨isMap_empty,fun n=>by rw[atKey_of_not_has (by simp[mapS,has])];rfl⟩
 | succ k c=>
  intro f;obtain⟨a,d⟩:=c (by omega);have b:S.take (k+1)=S.take k++[S[k]]:=(zY (show k<S.length by omega)).symm;rw[b,Ka];refine⟨a.put _ _,fun n=>?_⟩;by_cases e:n=S[k]
  .subst e;rw[atKey_put_same a (Vr _)];have:(S.take k++[S[k]]).contains S[k]=true:=(by rw[ur];exact List.mem_append_right _ (xw.2 rfl));rw[this]
  .rw[atKey_put_other (fun h=>e (LF h)),d];have this:(S.take k++[S[k]]).contains n=(S.take k).contains n:=(by rw[l8,ur,ur,yv,xw];exact⟨fun h=>h.resolve_right e,zt⟩);rw[this]
theorem Yk (S:List Nat) (n:Nat):(mapS S).atKey (keyL n) (.held (.bool false))=.held (.bool (S.contains n)):=by
 have:=(U2 S S.length zL).2 n
 rwa [xN]at this
def rJ (kd:Nat):List Nat->List (Nat×Nat)->Int
 | _,[]=>0
 | S,x::r=>if kd<=x.1\/(5<=x.1/\x.1<37)\/x.2≠64 then 1 else if S.contains x.1=true then 5 else rJ kd (S++[x.1]) r
def jnl (x:Jw):Nat×Nat:=(x.n,x.D.length)
def gM (kd:Nat) (E:List Jw):Int:=if 30<E.length then 2 else rJ kd [] (E.map jnl)
theorem UJ {E:List Jw} (a:k<E.length) (S:List Nat):rJ kd S ((E.drop k).map jnl)=if kd<=E[k].n\/(5<=E[k].n/\E[k].n<37)\/E[k].D.length≠64 then 1 else if S.contains E[k].n=true then 5 else rJ kd (S++[E[k].n]) ((E.drop (k+1)).map jnl):=by rw[xe a,yI,rJ];rfl
def YA (x:Jw):Prop:=x.n<256/\x.D.length<=1000/\∃p c,x.v=.slice p x.D.length c
theorem kf: prog.underlying 148=some (.map 3 4):=by kernel_rfl
theorem UF (d:w.heap[gl]?=some (.cells (logC a sq) 159)):Calls prog 131 #[(gl,())] w fun e w'=>e=.returned (30:Int)/\w=w':=by have c:w.cell? (gl,2)=some (.int .i64 32):=zC d;have b:=xL d;clear d;go_enter func131,ntmps131;go_wp2;go_ret;exact⟨rfl,rfl⟩
theorem YT (h:uL w (.pointer (some a)) st kd F) (hl:w.heap[gl]?=some (.cells (logC a sq) 159)) (v:Value) (E:List Jw) (hv:xT w v 2 E.length (ni E)) (hE:∀x∈E,YA x) (hn:E.length<=1000):
 Calls prog 92 #[(gl,()),v] w fun e w'=>e=.returned (.int .i64 (gM kd E))/\Below w w w':=by
 have HD:=Lib.hid h;have HL:=Lib.hid hl;have av:=Lib.hid (UF hl);obtain⟨p,cp,rfl,HP⟩:=WE hv;have HE:=Lib.hid hE;obtain⟨N,HN⟩:=zD E.length;rw[HN.o]at HP hn;rw[HN.o];have ab:=xL hl;clear h hl hv hE;have aj:Hid ((w.alloc (.map #[] 0)).ownsMap prog 3 RV w 0 (.map [])):=World.ownsMap_made w prog 3 RV;have aw:=@run_makeMap prog;go_enter func92,ntmps92;go_wp2_with fail
 refine av.o.mono ?_;rintro e w' ⟨rfl,rfl⟩;by_cases h4:30<N
 .have d1:decide ((30:Int)<(N:Int))=true:=by rw[yJ];omega
  have d2:decide (30<N)=true:=by rw[yJ];omega
  have R:Hid (gM kd E=2):=by show _=_;unfold gM;rw[HN.o,ze h4]
  go_wp2;go_ret;rw[R.o];exact⟨rfl,zB⟩
 have d1:decide ((30:Int)<(N:Int))=false:=by rw[zJ];omega
 have d2:decide (30<N)=false:=by rw[zJ];omega
 have R:Hid (gM kd E=rJ kd [] (E.map jnl)):=by show _=_;unfold gM;rw[HN.o,zb h4]
 go_wp2;clear aw;go_loopw [16] (fun i wr=>∃k:Nat,k<=N/\i=.int .i64 k/\Hid (wr.ownsMap prog 3 RV w k (mapS ((E.take k).map fun x=>x.n)))/\Hid (rJ kd [] (E.map jnl)=rJ kd ((E.take k).map fun x=>x.n) ((E.drop k).map jnl))/\Hid (Below w w wr)) (fun i _=>N-(intOf i).toNat);case atStart=>exact⟨0,ye _,rfl,aj,rfl,zB.alloc zL _⟩
 case round=>
  obtain⟨k,hk,rfl,HM,ad,V⟩:=hrel;by_cases ao:k<N
  .obtain⟨g,o,rfl,hg,hc⟩:=HP.o (by omega);have T:k<E.length:=(by rw[HN.o];exact ao);obtain⟨e0,e1⟩:=Zw E k T;have ag:=HE.o E[k] (zz T);have J:=UJ (kd:=kd) T ((E.take k).map fun x=>x.n);rw[<-ad.o]at J;have U:(E.take (k+1)).map (fun x=>x.n)=(E.take k).map (fun x=>x.n)++[E[k].n]:=(by rw[<-zY T,yB];rfl);generalize E[k]=x at e0 e1 ag J U;obtain⟨b,xv,xD⟩:=x;obtain⟨C,G,H,I,Z⟩:=ag;dsimp only at Z e0 e1 J U C G;obtain⟨S,al⟩:=zD xD.length;rw[al.o]at Z J G;subst Z;have c0:=(V.o.cell (p:=⟨g,o+k*2,none⟩) hg).trans (hc _ _ e0);have c1:=(V.o.cell (p:=⟨g,o+(k*2+1),none⟩) hg).trans (hc _ _ e1);rw[<-yA]at c1;have a8:(k:Int)<(N:Int):=(by omega);have aG:g<wr.heap.size:=zm hg V.o.size;have aD:¬g=wr.heap.size:=(by omega);have aE:gl<wr.heap.size:=zm ab V.o.size;have a2:¬gl=wr.heap.size:=(by omega);have Q:=we V.o HL.o;have l0:wr.cell? (gl,0)=some (.pointer (some a)):=zC Q;have l1:wr.cell? (gl,1)=some (.int .i64 5):=zC Q;have l2:wr.cell? (gl,2)=some (.int .i64 32):=zC Q;have A:Hid (Below w w (wr.alloc (.cells #[b,(H,S,I)] 163))):=V.o.alloc V.o.size _;have K:Hid (∀n,Calls prog 48 #[.pointer (some a)] ((wr.alloc (.cells #[b,(H,S,I)] 163)).drewN n) fun e w'=>e=.returned (.int .i64 ((kd:Nat):Int))/\w'=(wr.alloc (.cells #[b,(H,S,I)] 163)).drewN n):=fun n=>(mC ((HD.o.below A.o).drewN n)).mono fun e w' h=>⟨h.1,h.2.symm⟩;have y:=Lib.hid J;have P:=Lib.hid U;have b0:decide ((b:Int)<0)=false:=(by rw[zJ];omega);clear hc e0 e1 J U Q;by_cases l:kd<=b
   .have q1:decide ((kd:Int)<=(b:Int))=true:=(by rw[yJ];omega);have an:decide (kd<=b)=true:=(by rw[yJ];omega);have c:Hid (rJ kd [] (E.map jnl)=1):=(by show _=_;rw[y.o,ze (zt l)]);clear l;go_wp2
    go_quiet ((go_at_call 48;exact xQ (K.o _)))
    go_wp2;go_ret;rw[R.o,c.o];exact⟨rfl,lS A.o _⟩
   have q1:decide ((kd:Int)<=(b:Int))=false:=(by rw[zJ];omega);have an:decide (kd<=b)=false:=(by rw[zJ];omega);by_cases q:5<=b/\b<37
   .have q2:decide ((5:Int)<=(b:Int))=true:=(by rw[yJ];omega);have af:decide (5<=b)=true:=(by rw[yJ];omega);have q3:decide ((b:Int)<37)=true:=(by rw[yJ];omega);have ak:decide (b<37)=true:=(by rw[yJ];omega);have c:Hid (rJ kd [] (E.map jnl)=1):=(by show _=_;rw[y.o,ze (zu (zt q))]);clear l q;go_wp2
    go_quiet ((go_at_call 48;exact xQ (K.o _)))
    go_wp2;go_ret;rw[R.o,c.o];exact⟨rfl,lS A.o _⟩
   by_cases h2:b<5
   .have q2:decide ((5:Int)<=(b:Int))=false:=(by rw[zJ];omega);have af:decide (5<=b)=false:=(by rw[zJ];omega);clear h2;by_cases B:S=64;case neg=>
     have q4:((S:Int)==64)=false:=(by rw[xf];omega);have q5:((S:Int) != 64)=true:=(by simp[bne,q4]);have c:Hid (rJ kd [] (E.map jnl)=1):=(by show _=_;rw[y.o,ze (zu (zu B))]);clear l q B;go_wp2
     go_quiet ((go_at_call 48;exact xQ (K.o _)))
     go_wp2;go_ret;rw[R.o,c.o];exact⟨rfl,lS A.o _⟩
    subst B;have f:Hid (rJ kd [] (E.map jnl)=if ((E.take k).map fun x=>x.n).contains b=true then 5 else rJ kd (((E.take k).map fun x=>x.n)++[b]) ((E.drop (k+1)).map jnl)):=(by show _=_;rw[y.o,zb (by intro h;rcases h with h|h|h;exact l h;exact q h;exact h rfl)]);clear l q y;obtain⟨cb,M⟩:=zD (((E.take k).map fun x=>x.n).contains b);rw[M.o]at f;have s:Hid (keyOf prog 3 (.int .i64 (b:Int))=some (keyL b)):=keyOf_int_mk (by kernel_rfl) (ic b C);go_wp2
    go_quiet ((go_at_call 48;exact xQ (K.o _)))
    have D:Hid (Below w w ((wr.alloc (.cells #[b,.slice H 64 I] 163)).drewN nq)):=lS A.o nq;have L:Hid (((wr.alloc (.cells #[b,.slice H 64 I] 163)).drewN nq).ownsMap prog 3 RV w k (mapS ((E.take k).map fun x=>x.n))):=HM.o.alloc _;have x0:((wr.alloc (.cells #[b,.slice H 64 I] 163)).drewN nq).cell? (wr.heap.size,0)=some (.int .i64 (b:Int)):=zC (zT wr _);have xz:wr.heap.size<((wr.alloc (.cells #[b,.slice H 64 I] 163)).drewN nq).heap.size:=(by simp[World.drewN]);obtain⟨vb,au,O,j⟩:=L.o.lookup (t:=148) (e:=4) gW kf (z:=.bool false) (by kernel_rfl) (zd:=.held (.bool false)) (zp:=[]) rfl s.o;rw[Yk,M.o]at j;have m:vb=.bool cb:=(by unfold RV at j;simp at j;exact j.1);rw[m]at O;generalize (wr.alloc (.cells #[b,.slice H 64 I] 163)).drewN nq=w5 at *
    have X:w.heap.size<=w5.heap.size:=D.o.size;clear j m c0 c1 l0 l1 l2;cases cb with
    | true=>
     have c:Hid (rJ kd [] (E.map jnl)=5):=(by show _=_;rw[f.o,ze rfl]);go_wp2;go_ret;rw[R.o,c.o];exact⟨rfl,D.o⟩
    | false=>
     have c:Hid (rJ kd [] (E.map jnl)=rJ kd ((E.take (k+1)).map fun x=>x.n) ((E.drop (k+1)).map jnl)):=(by show _=_;rw[f.o,zb (by simp),P.o]);go_wp2_with (at_mapUpdate;refine qE _ rfl _ _ _ 148 rfl 3 4 gW kf RV w k (mapS ((E.take k).map fun x=>x.n)) rfl L.o (by unfold maxLen;omega) _ _ (keyL b) rfl rfl s.o _ [] rfl ?_;intro w6 u d)
     have Y:Hid (w6.ownsMap prog 3 RV w (k+1) (mapS ((E.take (k+1)).map fun x=>x.n))):=(by show World.ownsMap _ _ _ _ _ _ _;rw[P.o,Ka];exact u);have W:Hid (Below w w w6):=D.o.grown d X (by intro r hr;simp at hr;omega);clear u d;go_wp2;go_roundw;case rel=>exact⟨k+1,by omega,by go_num,Y,c,W⟩
     case measure=>simp[intOf];omega
   .have q2:decide ((5:Int)<=(b:Int))=true:=(by rw[yJ];omega);have af:decide (5<=b)=true:=(by rw[yJ];omega);have q3:decide ((b:Int)<37)=false:=(by rw[zJ];omega);have ak:decide (b<37)=false:=(by rw[zJ];omega);clear h2;by_cases B:S=64;case neg=>
     have q4:((S:Int)==64)=false:=(by rw[xf];omega);have q5:((S:Int) != 64)=true:=(by simp[bne,q4]);have c:Hid (rJ kd [] (E.map jnl)=1):=(by show _=_;rw[y.o,ze (zu (zu B))]);clear l q B;go_wp2
     go_quiet ((go_at_call 48;exact xQ (K.o _)))
     go_wp2;go_ret;rw[R.o,c.o];exact⟨rfl,lS A.o _⟩
    subst B;have f:Hid (rJ kd [] (E.map jnl)=if ((E.take k).map fun x=>x.n).contains b=true then 5 else rJ kd (((E.take k).map fun x=>x.n)++[b]) ((E.drop (k+1)).map jnl)):=(by show _=_;rw[y.o,zb (by intro h;rcases h with h|h|h;exact l h;exact q h;exact h rfl)]);clear l q y;obtain⟨cb,M⟩:=zD (((E.take k).map fun x=>x.n).contains b);rw[M.o]at f;have s:Hid (keyOf prog 3 (.int .i64 (b:Int))=some (keyL b)):=keyOf_int_mk (by kernel_rfl) (ic b C);go_wp2
    go_quiet ((go_at_call 48;exact xQ (K.o _)))
    have D:Hid (Below w w ((wr.alloc (.cells #[b,.slice H 64 I] 163)).drewN nq)):=lS A.o nq;have L:Hid (((wr.alloc (.cells #[b,.slice H 64 I] 163)).drewN nq).ownsMap prog 3 RV w k (mapS ((E.take k).map fun x=>x.n))):=HM.o.alloc _;have x0:((wr.alloc (.cells #[b,.slice H 64 I] 163)).drewN nq).cell? (wr.heap.size,0)=some (.int .i64 (b:Int)):=zC (zT wr _);have xz:wr.heap.size<((wr.alloc (.cells #[b,.slice H 64 I] 163)).drewN nq).heap.size:=(by simp[World.drewN]);obtain⟨vb,au,O,j⟩:=L.o.lookup (t:=148) (e:=4) gW kf (z:=.bool false) (by kernel_rfl) (zd:=.held (.bool false)) (zp:=[]) rfl s.o;rw[Yk,M.o]at j;have m:vb=.bool cb:=(by unfold RV at j;simp at j;exact j.1);rw[m]at O;generalize (wr.alloc (.cells #[b,.slice H 64 I] 163)).drewN nq=w5 at *
    have X:w.heap.size<=w5.heap.size:=D.o.size;clear j m c0 c1 l0 l1 l2;cases cb with
    | true=>
     have c:Hid (rJ kd [] (E.map jnl)=5):=(by show _=_;rw[f.o,ze rfl]);go_wp2;go_ret;rw[R.o,c.o];exact⟨rfl,D.o⟩
    | false=>
     have c:Hid (rJ kd [] (E.map jnl)=rJ kd ((E.take (k+1)).map fun x=>x.n) ((E.drop (k+1)).map jnl)):=(by show _=_;rw[f.o,zb (by simp),P.o]);go_wp2_with (at_mapUpdate;refine qE _ rfl _ _ _ 148 rfl 3 4 gW kf RV w k (mapS ((E.take k).map fun x=>x.n)) rfl L.o (by unfold maxLen;omega) _ _ (keyL b) rfl rfl s.o _ [] rfl ?_;intro w6 u d)
     have Y:Hid (w6.ownsMap prog 3 RV w (k+1) (mapS ((E.take (k+1)).map fun x=>x.n))):=(by show World.ownsMap _ _ _ _ _ _ _;rw[P.o,Ka];exact u);have W:Hid (Below w w w6):=D.o.grown d X (by intro r hr;simp at hr;omega);clear u d;go_wp2;go_roundw;case rel=>exact⟨k+1,by omega,by go_num,Y,c,W⟩
     case measure=>simp[intOf];omega
  .have HF:Hid (rJ kd [] (E.map jnl)=0):=(by show _=_;rw[ad.o,yP (by rw[HN.o];omega)];rfl);go_wp2;go_ret;rw[R.o,HF.o];exact⟨rfl,V.o⟩
