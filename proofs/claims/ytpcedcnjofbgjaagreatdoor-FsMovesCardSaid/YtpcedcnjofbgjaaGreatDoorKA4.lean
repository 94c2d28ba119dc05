import Derived.Test.YtpcedcnjofbgjaaGreatDoorKA1
import Derived.Test.YtpcedcnjofbgjaaGreatDoorProg
import Derived.WalkSpells
import Derived.WalkLawsBesides
import Derived.Lib.Hide
import Derived.LoopTactic
import Derived.RegionTactic
import Derived.BigRegion
import Derived.Laws.AppendOwn
set_option maxHeartbeats 0
set_option linter.all false
set_option maxRecDepth 100000
namespace Go.Proofs.YtpcedcnjofbgjaaGreatDoor
open Go.Proofs.Tryz Go.RowKit
variable {k:Nat} {l:List Int}
abbrev za:=@Lib.hid
def pk (a n:Int):Int:=wrap64 ((IntKind.u64.wrap a).tmod n)
theorem tX (a n) (e:0<n) (f:n<9223372036854775808):0<=pk a n/\pk a n<n:=by
 unfold pk;have b:0<=IntKind.u64.wrap a:=by simp[IntKind.wrap,IntKind.bits,IntKind.signed];omega
 have d:=Int.tmod_nonneg n b;have c:=qk (IntKind.u64.wrap a) e;have:wrap64 ((IntKind.u64.wrap a).tmod n)=(IntKind.u64.wrap a).tmod n:=by unfold wrap64;omega
 rw[this];exact⟨d,c⟩
theorem tW (a n) (w) (b:0<n) (c:n<9223372036854775808):
 Calls prog 18 #[(a:Int),(n:Int)] w λe w'=>e=.returned (pk a n:Int)/\w=w':=by
 go_enter func18,ntmps18
 go_wp2;go_ret;exact⟨rfl,rfl⟩
theorem uA {k:IntKind} {a b:Int} (h:a=b):Ending.returned (.int k a)=.returned (.int k b):=by rw[h]
theorem Mk (v) (l) (w) (h:tP w v l) (H:l.length<=1000000):
 Calls prog 162 #[v] w λe w'=>e=.returned (mT l:Int)/\w=w':=by
 obtain⟨b,⟨y,F,G,rfl⟩|⟨g,C,A,rfl,z⟩⟩:=h
 .have j:Hid (mT l=0):=by have  :=yz.1 y;subst this;rfl
  clear b y;go_enter func162,ntmps162;go_wp2
  go_loop [10] (λi=>i=.int .i64 0) (λ_=>0)
  case atStart=>rfl
  case round =>obtain rfl:=hrel;go_wp2;go_ret;exact⟨uA j.o.symm,rfl⟩
 .have B:=za z;clear z b;obtain⟨n,f⟩:=zA l.length;rw[<-f.o]at H |-;by_cases a:8<n
  .have j:Hid (mT l=2):=(by unfold mT Hid;rw[<-f.o,ze a]);go_enter func162,ntmps162;go_wp2;go_ret;exact⟨uA j.o.symm,rfl⟩
  .go_enter func162,ntmps162
   go_wp2
   go_loop [10] (λi=>∃k:Nat,k<=n/\i=.int .i64 k/\Hid ((l.take k).any badP=false)) (λi=>n-(intOf i).toNat)
   .exact⟨0,yh _,rfl,rfl⟩
   .obtain⟨k,E,rfl,x⟩:=hrel;by_cases m:k<n
    .have c:k<l.length:=(by rw[<-f.o];exact m);have d:=B.o k _ (pQ l k c);obtain⟨p,r⟩:=zA (l[k]);rw[<-r.o]at d;have t:Hid (badP p=true->mT l=1):=λq=>(by unfold mT;rw[<-f.o,zb a,ze];rw[xO];exact⟨l[k],Nj c,by rw[<-r.o];exact q⟩);have D:Hid (badP p=false->(l.take (k+1)).any badP=false):=λq=>(by rw[<-zU c,List.any_append,x.o,<-r.o];simp[q]);by_cases s:p<0
     .go_wp2;go_ret;exact⟨uA (t.o (by simp[badP,s])).symm,rfl⟩
     .by_cases u:256<=p
      .go_wp2;go_ret;exact⟨uA (t.o (by simp[badP,u])).symm,rfl⟩
      .go_wp2
       go_round
       .exact⟨k+1,by omega,by go_num,D.o (by simp[badP,s,u])⟩
       .simp[intOf];omega
    .have j:Hid (mT l=0):=(by unfold mT Hid;have:=x.o;rw[zo (by rw[<-f.o];omega)]at this;rw[<-f.o,zb a,zb (by simp[this])]);go_wp2;go_ret;exact⟨uA j.o.symm,rfl⟩
theorem GQ (a b p) (w) (g:0<=a) (h:a<=1000) (i:0<=b) (j:b<=1000):
 Calls prog 204 #[.agg #[(a:Int),(b:Int)],(p:Int)] w (κ w (.bool (Qx (a,b) p))):=by
 by_cases c:a=0
 .have f:(a==0)=true:=by simpa using c
  have d:Hid (Qx (a,b) p=(p==0)):=by simp[Qx,c,Hid]
  clear c;go_enter func204,ntmps204;go_wp2;go_ret;rw[d.o];exact⟨rfl,zB.alloc zL _⟩
 .have f:(a==0)=false:=by simpa using c
  have d:Hid (Qx (a,b) p=(p==a+b)):=by simp[Qx,c,Hid]
  clear c;go_enter func204,ntmps204;go_wp2;go_ret;rw[d.o];exact⟨rfl,zB.alloc zL _⟩
theorem Z2: (prog.info? 232).map (λi=>(i.zero,i.size,i.bytes))=some (some (.agg #[(),()]),2,16):=by kernel_rfl
theorem Ib: prog.underlying 228=some (.slice 232):=by kernel_rfl
theorem Ug {p q:Int}:∀u,u∈[Value.int .i64 p,Value.int .i64 q]->u.oneCell'=true:=by intro u a;simp at a;rcases a with rfl|rfl<;>rfl
def OfRes (l:List Int) (w:World) (e:Ending) (w':World):Prop:=
 ∃v,e=.returned (.tuple #[v,()])/\w'.ownsRow w 232 2 v (ofR l).length (qP (ofE l))/\Below w w w'
theorem JA (v) (l) (w) (h:tP w v l) (hr:mT l=0):
 Calls prog 163 #[v] w (OfRes l w):=by
 have am:l.length<=8:=by
  unfold mT at hr;split at hr
  .cases hr
  .omega
 have ad:∀p,p∈l->0<=p/\p<=255:=λp hp=>by
  unfold mT at hr;split at hr
  .cases hr
  .split at hr
   .cases hr
   .rename_i X;have:badP p=false:=by
     cases hb:badP p with
     | false=>rfl
     | true=>exact yi (xO.2 ⟨p,hp,hb⟩) X
    simp[badP]at this;omega
 have HR:=za hr;have Y:=za ad;have H:=za h;clear hr ad h;obtain⟨i0,hi,T,ac,Z⟩:=yX Z2;have HI:=za hi;have ae:=za T;have af:=za ac;have V:=za Z;clear hi T ac Z;obtain⟨n,Q⟩:=zA l.length;rw[<-Q.o]at am;obtain⟨p0,F,hv,HC⟩:∃p F,v=.slice p n F/\Hid (∀(W:World),Below w w W->∀k (hk:k<l.length),∃g A,p=some ⟨g,A,none⟩/\W.cell? ⟨g,A+k,none⟩=some (.int .i64 l[k])):=by
  obtain⟨a2,⟨h0,a0,c0,hv⟩|⟨g,A,F,hv,hc⟩⟩:=H.o
  .exact⟨a0,c0,by rw[Q.o,h0];exact hv,λW _ k hk=>by omega⟩
  .refine⟨_,F,by rw[Q.o];exact hv,λW hb k hk=>⟨g,A,rfl,?_⟩⟩;have:=hc k _ (pQ l k hk);exact (hb.cell (zy this)).trans this
 subst hv;go_enter func163,ntmps163;go_wp2_with fail
 refine (Mk _ l _ H.o (by rw[<-Q.o];omega)).mono ?_;rw[HR.o];rintro e w' ⟨rfl,rfl⟩;go_wp2;go_loopw [5,16] (λo i wr=>∃k:Nat,k<=n/\i=.int .i64 k/\Hid (wr.ownsRow w 232 2 o (ofR (l.take k)).length (qP (ofE (l.take k))))/\Below w w wr) (λ_ i _=>n-(intOf i).toNat)
 .exact⟨0,yh _,rfl,yL _ _ _ _,zB⟩
 .obtain⟨k,hk,rfl,E,B⟩:=hrel;by_cases ao:k<n
  .have P:k<l.length:=(by rw[<-Q.o];exact ao);obtain⟨g,A,hp,J⟩:=HC.o wr B k P;subst hp;obtain⟨p,Hp⟩:=zA (l[k]);rw[<-Hp.o]at J;have av:0<=p/\p<=255:=(by rw[Hp.o];exact Y.o _ (Nj P));obtain⟨aO,aL⟩:=av;have C:=QK k (l.take k) (by rw[Ni];omega) (λq hq=>Y.o q (xI hq));have HS:Hid (ofR (l.take (k+1))=og (ofR (l.take k)) p):=(by rw[<-zU P,iU,Hp.o];exact rfl);unfold ofE at E |-;generalize ofR (l.take k)=R at *
   obtain⟨C,D⟩:=C;have au:=za C;clear C;cases R with
   | nil=>
    obtain⟨c0,cp,M⟩:∃c0 cp,u5=.slice c0 0 cp:=by
     obtain⟨_,⟨rfl,_⟩|⟨t,c,y,rfl,_⟩⟩:=E.o
     .exact⟨_,_,rfl⟩
     .exact⟨_,_,rfl⟩
    subst M;have I:=(E.o.alloc (.cells #[p,(1:Int)] 232)).lt;go_wp2_with (first
     | (at_builtin;refine yw _ rfl _ _ 228 rfl w.heap.size 232 i0 (.agg #[(),()]) 2 16 Ib HI.o ae.o af.o V.o rfl (by decide) _ _ _ rfl (E.o.alloc _) ⟨wr.heap.size,0,none⟩ 1 1 [.int .i64 p,.int .i64 1] rfl rfl (λj u M=>Ru _ #[p,(1:Int)] _ j u M) Ug (by simp only[xC]at D |-;unfold maxLen;omega) (by simp only[xC]at D |-;omega) (by have:=B.size;  simp;omega) ?_;intro v' w4 m d _))
    have K:Hid (w4.ownsRow w 232 2 v' (ofR (l.take (k+1))).length (qP (ofE (l.take (k+1))))):=(by unfold ofE;rw[HS.o,LR];have:w4.ownsRow w 232 2 v' 1 (qP [(p,1)]):=(by simpa[qP]using m);exact this);have N:=Cd (B.alloc B.size _) d (by have:=B.size;simp;omega) (λq hq=>(I q hq).1);clear m d I;go_wp2;go_roundw
    .exact⟨k+1,by omega,by go_num,K,N⟩
    .simp[intOf];omega
   | cons x r=>
    obtain⟨a,b⟩:=x;have aw:=au.o (a,b) (by simp);obtain⟨az,aE,aI,aP⟩:=aw;obtain⟨t,c,y,M,U,hh,a1⟩:∃t c y,u5=.slice (some ⟨t,0,none⟩) (r.length+1) c/\w.heap.size<=t/\Hid (wr.heap[t]?=some (.cells y 232))/\r.length+1<=c:=by
     obtain⟨_,⟨rfl,h0⟩|⟨t,c,y,rfl,h1,h2,h3,_⟩⟩:=E.o
     .simp at h0
     .exact⟨t,c,y,rfl,h1,h2,h3⟩
    subst M;have s:Hid (wr.ownsRow w 232 2 (t,0,(r.length+1),c) (r.length+1) (qP (r.reverse++[(a,b)]))):=(by have:=E.o;rw[wk]at this;exact this);clear E;have aD:r.length+1<=k:=D;clear D;have L:=DZ r.reverse (a,b);have aF:wr.cell? (t,r.length*2)=some (.int .i64 a):=(by rw[World.ownsRow.cellAt s.o _ (by omega)];simpa using L.1);have O:wr.cell? (t,r.length*2+1)=some (.int .i64 b):=(by rw[World.ownsRow.cellAt s.o _ (by omega)];simpa using L.2);clear L;have ar:wr.frozen? (t,r.length*2+1)=false:=zF hh.out;have HG:Hid (∀W,Calls prog 204 #[.agg #[a,b],p] W (κ W (.bool (Qx (a,b) p)))):=λW=>GQ a b p W az (by omega) (by omega) (by omega);cases G:Qx (a,b) p
    .have z:=za G;clear G;go_wp2_with (first
      | (go_at_call 204;refine (HG.o _).mono ?_;rw[z.o];rintro e w3 ⟨rfl,f⟩)
      | (at_builtin;refine yw _ rfl _ _ 228 rfl w.heap.size 232 i0 (.agg #[(),()]) 2 16 Ib HI.o ae.o af.o V.o rfl (by decide) _ _ _ rfl ((tt s.o f).alloc _) ⟨w3.heap.size,0,none⟩ 1 1 [.int .i64 p,.int .i64 1] rfl rfl (λj u M=>Ru _ #[p,(1:Int)] _ j u M) Ug (by unfold maxLen;omega) (by omega) (by have:=B.size;have:=f.size;simp;omega) ?_;intro v' w4 m d _))
     have K:Hid (w4.ownsRow w 232 2 v' (ofR (l.take (k+1))).length (qP (ofE (l.take (k+1))))):=(by unfold ofE;rw[HS.o,X5 z.o,wk,wk,uE (r.reverse++[(a,b)])];exact m);have N:=Cd ((zi B f).alloc (by have:=B.size;have:=f.size;omega) _) d (by have:=B.size;have:=f.size;simp;omega) (λq hq=>by cases hq;exact U);clear m d;go_wp2;go_roundw
     .exact⟨k+1,by omega,by go_num,K,N⟩
     .simp[intOf];omega
    .have z:=za G;clear G;go_wp2_with (first
      | (go_at_call 204;refine (HG.o _).mono ?_;rw[z.o];rintro e w3 ⟨rfl,f⟩;have aC:=(f.cell (zy O)).trans O;have aA:=(f.frozen (zy O)).trans ar))
     go_roundw;case rel=>
      refine⟨k+1,by omega,by go_num,?_,(zi B f).setCell U _⟩;have h1:=(tt s.o f).stored (r.length*2+1) (.int .i64 (b+1));have h2:=Oj r.reverse a b (b+1);rw[uJ]at h2;rw[h2]at h1;rw[HS.o,lO z.o,wk];exact h1.1
     case measure=>simp[intOf];omega
  .have S:k=n:=(by omega);have HF:Hid (l.take k=l):=(by rw[S,Q.o];exact xN);have s:Hid (wr.ownsRow w 232 2 u5 (ofR l).length (qP (ofE l))):=(by have:=E.o;rw[HF.o]at this;exact this);clear S E HF;go_wp2;go_ret2;exact⟨_,rfl,s.o,B⟩
def Za (l:List (Int×Int)):List Int:=l.flatMap λx=>[x.1,x.2]
theorem Qu (l):(Za l).length=l.length*2:=by
 induction l with
 | nil=>rfl
 | cons x l a=>simp only[Za,Nm,zl,yv,xC]at *;omega
theorem U2 (a b):Za (a++b)=Za a++Za b:=by simp[Za]
def qK (l:List (Int×Int)):List Int:=Za l++List.replicate (16-l.length*2) 0
def byts (l:List Int):Array Value:=(l.map λn=>Value.int .u8 n).toArray
theorem Gd (l) (x) (h:l.length<8):((byts (qK l)).setIfInBounds (l.length*2) (.int .u8 x.1)).setIfInBounds (l.length*2+1) (.int .u8 x.2)=byts (qK (l++[x])):=by have a:=Qu l;unfold byts qK;rw[U2,zl,show 16-l.length*2=(14-l.length*2)+1+1 by omega,wY,wY,show 16-(l.length+[x].length)*2=14-l.length*2 by simp;omega];simp only[zP,yo,yB];rw[vh _ _ (by simp;omega)];rw[show l.length*2-(List.map (λn=>Value.int IntKind.u8 n) (Za l)).length=0 by simp;omega];rw[vh _ _ (by simp;omega)];rw[show l.length*2+1-(List.map (λn=>Value.int IntKind.u8 n) (Za l)).length=1 by simp;omega];simp[Za]
theorem EP (l) (h:l.length<=8):(byts (qK l)).size=16:=by have:=Qu l;simp[byts,qK];omega
theorem make16 (W):(Instr.makeSlice 38 (.int .i64 16) (.int .i64 16)).run prog W=.ok (.slice (some ⟨W.heap.size,0,none⟩) 16 16) (W.alloc (.cells (byts (qK [])) 5)):=by kernel_rfl
theorem gV (a:mT l=0):l.length<=8:=by
 unfold mT at a;split at a
 .cases a
 .omega
theorem PJ (d:mT l=0):∀p,p∈l->0<=p/\p<=255:=λp b=>by
 unfold mT at d;split at d
 .cases d
 .split at d
  .cases d
  .rename_i a;have:badP p=false:=by
    cases c:badP p with
    | false=>rfl
    | true=>exact yi (xO.2 ⟨p,b,c⟩) a
   simp[badP]at this;omega
def Iu (l:List Int) (w:World) (e:Ending) (w':World):Prop:=
 ∃g,e=.returned (.tuple #[.slice (some ⟨g,0,none⟩) 16 16,()])/\w.heap.size<=g/\w'.heap[g]?=some (.cells (byts (qK (ofE l))) 5)/\Below w w w'
theorem Qn (v) (l) (w) (h:tP w v l) (hr:mT l=0):
 Calls prog 128 #[v] w (Iu l w):=by
 have H:=za h;have HR:=za hr;clear h hr;obtain⟨Z0,D⟩:=zA (byts (qK []));have aq:∀W,(Instr.makeSlice 38 (.int .i64 16) (.int .i64 16)).run prog W=.ok (.slice (some ⟨W.heap.size,0,none⟩) 16 16) (W.alloc (.cells Z0 5)):=λW=>by rw[D.o];exact make16 W
 go_enter func128,ntmps128
 go_wp2_with fail
 refine (JA _ l _ H.o HR.o).mono ?_;rintro e c ⟨o,rfl,n,d⟩;have I:=PJ HR.o;have L:=gV HR.o;have C:=QK l.length l rfl I;obtain⟨q,ay,hv,hq⟩:=rU n;have M:=za hq;subst hv;have hN:(ofR l).length=(ofE l).length:=by simp[ofE]
 have V:Hid (∀x,x∈ofE l->0<=x.1/\x.1<=255/\1<=x.2/\x.2<=8):=λx r=>by have:=C.1 x (by simpa[ofE]using r);omega
 obtain⟨N,F⟩:=zA ((ofE l).length);have au:N<=8:=by rw[F.o,<-hN];omega
 rw[hN,<-F.o]at M |-;clear I L C n hq hN;have E:=d;have U:Below w w (c.alloc (.cells Z0 5)):=d.alloc d.size _;go_wp2_with fail
 go_loopw [20] (λi wr=>∃k:Nat,k<=N/\i=.int .i64 k/\Below w w wr/\Hid (wr.heap[c.heap.size]?=some (.cells (byts (qK ((ofE l).take k))) 5))
  /\Hid (∀g,q=some ⟨g,0,none⟩->∀(j:Nat) (x:Value),(qP (ofE l))[j]?=some x->wr.cell? ⟨g,j,none⟩=some x)) (λi _=>N-(intOf i).toNat)
 case atStart=>
  refine⟨0,yh _,rfl,U,?_,λg hg j x r=>?_⟩
  .rw[xH,<-D.o];exact zH
  .have h0:0<N:=by
    rw[F.o];rcases wM (ofE l).length with h|h
    .rw[yz.1 h]at r;simp[qP]at r
    .exact h
   obtain⟨J,m,_,hc⟩:=M.o h0;rw[hg]at m;cases m;have:=hc j x r;exact (xR _ _ _ (zy this)).trans this
 case round=>
  obtain⟨k,hk,rfl,Z,s,Q⟩:=hrel;by_cases S:k<N
  .have t:k<(ofE l).length:=(by rw[<-F.o];exact S);obtain⟨g,X,hg,B⟩:=M.o (by omega);subst X;have G:=Un (ofE l) k t;obtain⟨a,b,u⟩:∃a b,(ofE l)[k]=(a,b):=⟨_,_,rfl⟩;have hr:=V.o _ (Nj t);rw[u]at G hr;have ao:g<c.heap.size:=zy (B _ _ G.1);clear B;have ca:=Q.o g rfl _ _ G.1;have cb:=Q.o g rfl _ _ G.2;obtain⟨ad,K,T,d⟩:=hr;simp only at ad K T d ca cb;have A:=za u;clear u G;have P:=EP ((ofE l).take k) (by rw[Ni];omega);have am:=xB s.o;have p:∀j,j<16->∃x,wr.cell? ⟨c.heap.size,j,none⟩=some x:=λj hj=>(by rw[zC s.o];exact⟨_,xx (by rw[P];exact hj)⟩);obtain⟨x0,R⟩:=p (2*k) (by omega);obtain⟨x1,ab⟩:=p (2*k+1) (by omega);have f0:wr.frozen? (c.heap.size,2*k)=false:=zF s.o;have f1:wr.frozen? (c.heap.size,2*k+1)=false:=zF s.o;clear p;have HZ:=za P;clear P;go_wp2
   go_region
   all_goals
    have f:=E.size;have Y:Below w w (((wr.setCell {block:=c.heap.size,off:=2*k} (Value.int IntKind.u8 a)).setCell {block:=c.heap.size,off:=2*k+1} (Value.int IntKind.u8 b)).alloc (Obj.cells #[Value.int IntKind.i64 a,Value.int IntKind.i64 b] 232)).drew:=
     (((Z.setCell f _).setCell f _).alloc ((Z.setCell f _).setCell f _).size _).drew
    have O:Hid ((((wr.setCell {block:=c.heap.size,off:=2*k} (Value.int IntKind.u8 a)).setCell {block:=c.heap.size,off:=2*k+1} (Value.int IntKind.u8 b)).alloc (Obj.cells #[Value.int IntKind.i64 a,Value.int IntKind.i64 b] 232)).drew.heap[c.heap.size]?=some (.cells (byts (qK ((ofE l).take (k+1)))) 5)):=(by have h1:=un (zT _ _ (2*k+1) _ _ (.int .u8 b) (zT _ _ (2*k) _ _ (.int .u8 a) s.o)) (Obj.cells #[Value.int IntKind.i64 a,Value.int IntKind.i64 b] 232);have y:=Gd ((ofE l).take k) (a,b) (by rw[Ni];omega);rw[Ni,show min k (ofE l).length=k by omega,show k*2=2*k by omega,<-A.o,zU t]at y;simp only[A.o]at y;rw[<-y];exact h1);have H5:Hid (∀J,some (⟨g,0,none⟩:Addr)=some ⟨J,0,none⟩->∀(j) (x),(qP (ofE l))[j]?=some x->(((wr.setCell {block:=c.heap.size,off:=2*k} (Value.int IntKind.u8 a)).setCell {block:=c.heap.size,off:=2*k+1} (Value.int IntKind.u8 b)).alloc (Obj.cells #[Value.int IntKind.i64 a,Value.int IntKind.i64 b] 232)).drew.cell? ⟨J,j,none⟩=some x):=λJ m j x r=>(by cases m;have h1:=Q.o g rfl j x r;have y:((wr.setCell {block:=c.heap.size,off:=2*k} (Value.int IntKind.u8 a)).setCell {block:=c.heap.size,off:=2*k+1} (Value.int IntKind.u8 b)).cell? ⟨g,j,none⟩=some x:=(by rw[vU _ _ _ _ (by intro e;cases e;omega),vU _ _ _ _ (by intro e;cases e;omega)];exact h1);exact (xR _ _ _ (zy y)).trans y);clear ca cb R ab f0 f1;go_wp2;go_roundw
    .exact⟨k+1,by omega,by go_num,Y,O,H5⟩
    .simp[intOf];omega
  .have z:k=N:=(by omega);have HF:Hid ((ofE l).take k=ofE l):=(by rw[z,F.o];exact xN);have O:Hid (wr.heap[c.heap.size]?=some (.cells (byts (qK (ofE l))) 5)):=(by have:=s.o;rw[HF.o]at this;exact this);clear z s HF;go_wp2;go_ret2;exact⟨_,rfl,E.size,O.o,Z⟩
theorem setT: prog.underlying 81=some (.array 32 5):=by kernel_rfl
theorem setI: (prog.info? 81).map (·.size)=some 32:=by kernel_rfl
theorem Below.setRow {B:Nat} {a w:World} (h:Below B a w) {g:Nat} (c:B<=g) (cs):Below B a (w.setRow g cs):=
 ⟨h.os,h.tape,h.output,by have:=h.size;simp only[World.setRow,py];exact this,λk b=>by rw[yO _ _ _ _ (by omega)];exact h.block k b⟩
abbrev xd:=@Below.setRow
theorem IR (A B) (n:Nat) (w) (d:n<256) (x) (f:A[n / 8]?=some (.int .u8 x))
 (b:Hid (A.setIfInBounds (n / 8) (Value.int IntKind.u8 (bits BinOp.or IntKind.u8 x (2 ^ (n%8)%256)))=B)) (a:Hid (B.size=32)) (c:Hid (B.all (·.oneCell')=true)):
 Calls prog 87 #[.agg A,n] w (κ w (.agg B)):=by
 go_enter func87,ntmps87
 go_wp2
 go_region
 all_goals
  rw[b.o];go_wp2_with (first
   | (refine yI rfl 81 (.tmp 2) rfl w rfl 81 B (0,0) _ (wW w _ _) setT rfl (by rw[a.o];exact setI) ?_)
   | (refine Nl rfl 81 (.tmp 4) (.tmp 20) rfl (w.heap.size+1) B rfl rfl 81 _ (wh w _ _) (by rw[a.o];exact setI) (by rw[a.o];rfl) c ?_))
  refine yE (tw rfl _ _ (w.heap.size+1) 81 B (0,0) _ rfl (ya _ _ _ _ _ _ (wh w _ _)) setT rfl (by rw[a.o];exact setI)) rfl ⟨rfl,?_⟩;exact xd ((zB.alloc zL _).alloc (by simp) _).drew (by omega) _
theorem jT (s) (n) (w) (a:0<=n) (b:n<256):
 Calls prog 87 #[.agg (enc s),(n:Int)] w (κ w (.agg (enc (ins s n.toNat)))):=by
 obtain⟨k,rfl⟩:=xP a;exact IR (enc s) _ k w (by omega) _ (Nx s (k / 8) (by omega)) (LC s k (by omega)) (tO _) (Zx _)
theorem WZ (A B) (n:Nat) (w) (d:n<256) (x) (f:A[n / 8]?=some (.int .u8 x))
 (b:Hid (A.setIfInBounds (n / 8) (Value.int IntKind.u8 (bits BinOp.andNot IntKind.u8 x (2 ^ (n%8)%256)))=B)) (a:Hid (B.size=32)) (c:Hid (B.all (·.oneCell')=true)):
 Calls prog 101 #[.agg A,n] w (κ w (.agg B)):=by
 go_enter func101,ntmps101
 go_wp2
 go_region
 all_goals
  rw[b.o];go_wp2_with (first
   | (refine yI rfl 81 (.tmp 2) rfl w rfl 81 B (0,0) _ (wW w _ _) setT rfl (by rw[a.o];exact setI) ?_)
   | (refine Nl rfl 81 (.tmp 4) (.tmp 20) rfl (w.heap.size+1) B rfl rfl 81 _ (wh w _ _) (by rw[a.o];exact setI) (by rw[a.o];rfl) c ?_))
  refine yE (tw rfl _ _ (w.heap.size+1) 81 B (0,0) _ rfl (ya _ _ _ _ _ _ (wh w _ _)) setT rfl (by rw[a.o];exact setI)) rfl ⟨rfl,?_⟩;exact xd ((zB.alloc zL _).alloc (by simp) _).drew (by omega) _
theorem l7 (s) (n) (w) (a:0<=n) (b:n<256):
 Calls prog 101 #[.agg (enc s),(n:Int)] w (κ w (.agg (enc (del s n.toNat)))):=by
 obtain⟨k,rfl⟩:=xP a;exact WZ (enc s) _ k w (by omega) _ (Nx s (k / 8) (by omega)) (Ii s k (by omega)) (tO _) (Zx _)
theorem JU (A) (n:Nat) (w) (a:n<256) (x) (b:A[n / 8]?=some (.int .u8 x)):
 Calls prog 168 #[.agg A,n] w (κ w (.bool (bits BinOp.and IntKind.u8 (x / 2 ^ (n%8)) 1==1))):=by
 go_enter func168,ntmps168
 go_wp2;go_ret;exact⟨rfl,zB.alloc zL _⟩
theorem Dv (s) (n) (w) (d:0<=n) (f:n<256):
 Calls prog 168 #[.agg (enc s),(n:Int)] w (κ w (.bool (s n.toNat))):=by
 obtain⟨k,rfl⟩:=xP d;refine (JU (enc s) k w (by omega) _ (Nx s (k / 8) (by omega))).mono λe w' ⟨b,c⟩=>⟨?_,c⟩;rw[b];unfold sg;rw[DU _ _ (by omega)];have a:8*(k / 8)+k%8=k:=by omega
 rw[a];simp only[yQ];cases s k<;>rfl
theorem byteT: prog.underlying 5=some (.int .u8):=by kernel_rfl
theorem byteI: (prog.info? 5).map (·.size)=some 1:=by kernel_rfl
theorem uD (w:World) (o) (i) (h:i=w.heap.size):(w.alloc o).heap[i]?=some o:=by rw[h];exact zO w o
theorem GH (s t) (A T R) (y:Hid (A=enc s)) (z:Hid (T=enc t)) (x:Hid (enc (join s t)=R)) (w):
 Calls prog 212 #[.agg A,.agg T] w (κ w (.agg R)):=by
 go_enter func212,ntmps212
 go_wp2;go_loopw [6] (λi wr=>∃k:Nat,k<=32/\i=.int .i64 k/\Below w w wr/\Hid (wr.heap[w.heap.size]?=some (.cells (enc (Qv s (join s t) k)) 81))/\Hid (wr.heap[w.heap.size+1]?=some (.cells (enc t) 81))
  /\Hid (∃Z,wr.heap[w.heap.size+2]?=some (.cells Z 81)/\Z.size=32)) (λi _=>32-(intOf i).toNat)
 case atStart=>
  refine⟨0,by omega,rfl,((zB.alloc zL _).alloc (by simp) _).alloc (by simp;omega) _,?_,?_,⟨_,uD _ _ _ (by simp),rfl⟩⟩
  .rw[Fe,<-y.o];exact (wN _ _ _ (by simp;omega)).trans ((wN _ _ _ (by simp)).trans (zH))
  .rw[<-z.o];exact (wN _ _ _ (by simp)).trans (uD _ _ _ (by simp))
 case round=>
  obtain⟨k,r,rfl,h,b,j,g⟩:=hrel;by_cases a:k<32
  .have v:wr.cell? (w.heap.size,k)=some (.int .u8 (sg s k)):=(by rw[xQ _ _ k _ _ _ b.o,Nx _ _ a,nO]);have u:wr.cell? (w.heap.size+1,k)=some (.int .u8 (sg t k)):=(by rw[xQ _ _ k _ _ _ j.o,Nx _ _ a]);have q:=frozen_of_row _ _ k _ _ b.o;go_wp2
   go_region
   all_goals
    go_wp2;go_roundw;case rel=>
     refine⟨k+1,by omega,by go_num,(h.setCell zL _).drew,?_,(rV _ _ _ _ (by simp)).trans j.o,?_⟩
     .rw[VZ];exact (zT _ _ _ _ _ _ b.o).trans (by rw[Ig s (join s t) k a])
     .obtain⟨Z,d,c⟩:=g.o;exact⟨Z,(rV _ _ _ _ (by simp)).trans d,c⟩
    case measure=>simp[intOf];omega
  .obtain rfl:k=32:=(by omega);obtain⟨Z,d,c⟩:=g.o;have l:=za d;have p:=za c;have m:Hid (wr.heap[w.heap.size]?=some (.cells R 81)):=(by have:=b.o;rw[Z7,x.o]at this;exact this);have f:Hid (R.size=32):=(by rw[<-x.o];exact tO _);have n:Hid (R.all (·.oneCell')=true):=(by rw[<-x.o];exact Zx _);clear d c b g;go_wp2_with (first
    | (refine yI rfl 81 (.tmp 2) rfl w rfl 81 R (0,0) _ m.out setT rfl (by rw[f.o];exact setI) ?_)
    | (refine Nl rfl 81 (.tmp 4) (.tmp 18) rfl (w.heap.size+2) R rfl rfl 81 Z l.out (by rw[f.o];exact setI) (by rw[f.o,p.out]) n.o ?_))
   refine yE (tw rfl _ _ (w.heap.size+2) 81 R (0,0) _ rfl (ya _ _ _ _ _ _ l.out) setT rfl (by rw[f.o];exact setI)) rfl ⟨rfl,?_⟩;exact xd h (by omega) _
theorem GJ (s t) (w):
 Calls prog 212 #[.agg (enc s),.agg (enc t)] w (κ w (.agg (enc (join s t)))):=GH s t _ _ _ rfl rfl rfl w
def FV (s:Nat->Bool) (lo hi:Nat) (e:Ending):Prop:=
 (∃n,lo<=n/\n<hi/\s n=false/\(∀m,lo<=m->m<n->s m=true)/\e=.returned (.tuple #[(n:Int),()])) \/
 ((∀m,lo<=m->m<hi->s m=true)/\e=.returned (.tuple #[(),(6:Int)]))
def Upto (s:Nat->Bool) (lo k:Nat):Prop:=∀m,lo<=m->m<k->m<256->s m=true
theorem U3 (
 s) (A) (HA:Hid (A=enc s)) (lo be:Nat) (w) (h0:lo<=1000) (h1:be<=1000):
 Calls prog 182 #[.agg A,lo,be] w λe w'=>FV s lo (min be 256) e/\Below w w w':=by
 have X:Hid (A.size=32):=by rw[HA.o];exact tO s
 rcases wM lo with t|t<;>by_cases N:be<=256;all_goals
  obtain⟨d,f,U,p⟩:∃d:Nat,Hid (min be 256=d)/\d<=256/\(d<=be/\(be<=d\/256<=d)):=⟨_,rfl,by omega,by omega,by omega⟩;obtain⟨p,R⟩:=p
  first|(have y:¬(256<(be:Int)):=by omega)|(have y:256<(be:Int):=by omega)
  have V:=za t
  first|(have T:¬0<lo:=by omega)|(have T:0<lo:=t)
  clear t;go_enter func182,ntmps182;go_wp2;go_loopw [8] (λi wr=>∃k:Nat,lo<=k/\k<=1010/\i=.int .i64 k/\Below w w wr/\Hid (wr.heap[w.heap.size]?=some (.cells A 81))/\Hid (Upto s lo k)) (λi _=>1020-(intOf i).toNat);case atStart =>refine⟨lo,by omega,by omega,by first|rfl|(rw[V.o];rfl),zB.alloc zL _,zH,λm v L=>by omega⟩
  case round=>
   obtain⟨k,Q,M,rfl,j,l,u⟩:=hrel;by_cases z:k<d
   .have Z:wr.cell? (w.heap.size,k / 8)=some (.int .u8 (sg s (k / 8))):=(by rw[zC l.o,HA.o,Nx _ _ (by omega)]);have K:=OP s (k / 8);have E:k<be:=(by omega);have J:k<256:=(by omega);by_cases v:(k:Int)%8=0/\sg s (k / 8)=255
    .obtain⟨q,r⟩:=v;have H:((k:Int)%8==0)=true:=(by simpa using q);have F:((sg s (k / 8):Int)==255)=true:=(by rw[wX];omega);have P:Hid (Upto s lo (k+8)):=λm h1 c D=>by
      by_cases B:m<k
      .exact u.o m h1 B D
      .have:=V0 r (m-k) (by omega)
       rwa [show 8*(k / 8)+(m-k)=m by omega]at this
     clear q r;go_wp2;go_roundw
     .exact⟨k+8,by omega,by omega,by go_num,j,l,P⟩
     .simp[intOf];omega
    .have C:((k:Int)%8==0)=false\/(((k:Int)%8==0)=true/\((sg s (k / 8):Int)==255)=false):=by
      by_cases h1:(k:Int)%8=0
      .right;refine⟨by simpa using h1,?_⟩;rw[yU];intro c;exact v ⟨h1,by omega⟩
      .left;simpa using h1
     clear v;have G:∀W,Calls prog 168 #[.agg A,k] W (κ W (.bool (s k))):=λW=>(by rw[HA.o];exact Dv s k W (by omega) (by omega));have Y:=za G;clear G;rcases C with O|⟨O,S⟩<;>cases I:s k;all_goals
      have h:=za I;clear I;go_wp2_with (first
       | (refine yI rfl 81 (.tmp 3) rfl w rfl 81 A (0,0) _ l.o setT rfl (by rw[X.o];exact setI) ?_)
       | (go_at_call 168;refine (Y.o _).mono ?_;rw[h.o];rintro e w' ⟨rfl,g⟩))
      first
       | (
        go_ret2;refine⟨zu ⟨k,by omega,?_,h.o,λm h1 c=>u.o m (by omega) c (by omega),rfl⟩,j.trans (g.mono j.size)⟩;rw[f.o];exact z)
       | (
        go_roundw;case rel=>
         refine⟨k+1,by omega,by omega,by go_num,j.trans (g.mono j.size),(g.block _ (wb.1 l.o).1).trans l.o,λm h1 c D=>?_⟩;by_cases B:m=k
         .rw[B];exact h.o
         .exact u.o m h1 (by omega) D
        case measure=>simp[intOf];omega)
   .have x:¬(k<be/\k<256):=(by omega);have b:256<be->¬k<256:=(by omega);have a:be<=256->¬k<be:=by omega
    first
     | (have n:=a N)
     | (have n:=b (by omega))
    clear x b a;go_wp2;go_ret2;refine⟨zw ⟨λm h1 c=>u.o m (by omega) ?_ ?_,rfl⟩,j⟩
    .rw[f.o]at c;omega
    .rw[f.o]at c;omega
theorem XG (s) (o p:Int) (n:Nat) (w) (r:0<=o) (v:o<=1000) (t:0<=p) (x:p<=1000) (y:o<=n) (z:n<p) (A:n<256) (q:s n=false) (u:∀m:Nat,o<=m->m<n->s m=true):
 Calls prog 182 #[.agg (enc s),o,p] w (κ w (.tuple #[n,()])):=by
 obtain⟨a,rfl⟩:=xP r;obtain⟨b,rfl⟩:=xP t;refine (U3 s _ rfl a b w (by omega) (by omega)).mono λe w' ⟨g,i⟩=>⟨?_,i⟩;rcases g with⟨k,l,j,d,f,rfl⟩|⟨c,_⟩
 .obtain rfl:k=n:=by
   rcases Nat.lt_trichotomy k n with h|h|h
   .have:=u k (by omega) h;rw[d]at this;cases this
   .exact h
   .have:=f n (by omega) h;rw[q]at this;cases this
  rfl
 .have:=c n (by omega) (by omega);rw[q]at this;cases this
theorem XH (s) (j l:Int) (w) (n:0<=j) (q:j<=1000) (o:0<=l) (r:l<=1000) (p:∀m:Nat,j<=m->m<l->m<256->s m=true):
 Calls prog 182 #[.agg (enc s),j,l] w (κ w (.tuple #[(),(6:Int)])):=by
 obtain⟨a,rfl⟩:=xP n;obtain⟨b,rfl⟩:=xP o;refine (U3 s _ rfl a b w (by omega) (by omega)).mono λe w' ⟨d,f⟩=>⟨?_,f⟩;rcases d with⟨k,i,g,c,h,rfl⟩|⟨_,rfl⟩
 .have:=p k (by omega) (by omega) (by omega);rw[c]at this;cases this
 .rfl
def emp : Nat->Bool:=λ_=>false
theorem Ih: #[Value.int IntKind.u8 0,Value.int IntKind.u8 0,Value.int IntKind.u8 0,Value.int IntKind.u8 0,Value.int IntKind.u8 0,Value.int IntKind.u8 0,Value.int IntKind.u8 0,Value.int IntKind.u8 0,Value.int IntKind.u8 0,Value.int IntKind.u8 0,Value.int IntKind.u8 0,Value.int IntKind.u8 0,Value.int IntKind.u8 0,Value.int IntKind.u8 0,Value.int IntKind.u8 0,Value.int IntKind.u8 0,Value.int IntKind.u8 0,Value.int IntKind.u8 0,Value.int IntKind.u8 0,Value.int IntKind.u8 0,Value.int IntKind.u8 0,Value.int IntKind.u8 0,Value.int IntKind.u8 0,Value.int IntKind.u8 0,Value.int IntKind.u8 0,Value.int IntKind.u8 0,Value.int IntKind.u8 0,Value.int IntKind.u8 0,Value.int IntKind.u8 0,Value.int IntKind.u8 0,Value.int IntKind.u8 0,Value.int IntKind.u8 0]=enc emp:=by kernel_rfl
theorem setZ: ∀w,(zeroValue 81).run prog w=.ok (.agg (enc emp)) w:=(ui (P:=prog) (t:=81) (v:=.agg (enc emp)) (n:=32) (by rw[<-Ih];kernel_rfl)).1
structure Fo where
 nd:Nat->Nat->Int
 hs:Nat->Nat->Bool
def nu (f:Fo) (k j:Nat):Value:=if j<16 then .int .i64 (f.nd k j) else .int .u8 (sg (f.hs k) (j-16))
def encF (f:Fo):Array Value:=Array.ofFn (n:=192) λi=>nu f (i.val / 48) (i.val%48)
def encT (f:Fo) (k:Nat):Array Value:=Array.ofFn (n:=48) λj=>nu f k j.val
def encN (f:Fo) (k:Nat):Array Value:=Array.ofFn (n:=16) λj=>nu f k j.val
theorem vX (f):(encF f).size=192:=by simp[encF]
theorem sf (f) (k):(encT f k).size=48:=by simp[encT]
theorem Px (f) (k):(encN f k).size=16:=by simp[encN]
theorem uh (f) (k j) (a:k<4) (b:j<48):(encF f)[k*48+j]?=some (nu f k j):=by
 have h:k*48+j<192:=by omega
 simp only[encF,rt,dif_pos h];rw[show (k*48+j) / 48=k by omega,show (k*48+j)%48=j by omega]
theorem mu (f) (k j) (a:j<48):(encT f k)[j]?=some (nu f k j):=by simp only[encT,rt,dif_pos a]
theorem fX (f) (k j) (a:j<16):(encN f k)[j]?=some (nu f k j):=by simp only[encN,rt,dif_pos a]
theorem Ta (f) (k j):(nu f k j).oneCell'=true:=by unfold nu;split<;>rfl
theorem pS (f):(encF f).all (·.oneCell')=true:=by rw[xJ];intro x a;obtain⟨i,b,rfl⟩:=Array.mem_iff_getElem.1 a;simp only[encF,Array.getElem_ofFn];exact Ta _ _ _
theorem fV (f) (k):(encT f k).all (·.oneCell')=true:=by rw[xJ];intro x a;obtain⟨i,b,rfl⟩:=Array.mem_iff_getElem.1 a;simp only[encT,Array.getElem_ofFn];exact Ta _ _ _
theorem Pg (f) (k) (b:k<4):∀j,j<(enc (f.hs k)).size->(encF f)[k*48+16+j]?=(enc (f.hs k))[j]? :=λj a=>by rw[tO]at a;rw[yp,uh f k (16+j) b (by omega),Nx _ _ a];unfold nu;rw[zb (by omega),show 16+j-16=j by omega]
theorem Rm (f) (k) (b:k<4):∀j,j<(encT f k).size->(encF f)[k*48+j]?=(encT f k)[j]? :=λj a=>by rw[sf]at a;rw[uh f k j b a,mu f k j a]
theorem QY (f) (k) (b:k<4):∀j,j<(encN f k).size->(encF f)[k*48+j]?=(encN f k)[j]? :=λj a=>by rw[Px]at a;rw[uh f k j b (by omega),fX f k j a]
def uB (f:Fo) (k:Nat):Bool:= !(f.nd k 0==0)
theorem forT: prog.underlying 85=some (.array 4 83):=by kernel_rfl
theorem forI: (prog.info? 85).map (·.size)=some 192:=by kernel_rfl
theorem Od: (prog.info? 83).map (·.size)=some 48:=by kernel_rfl
theorem Uv: (prog.info? 79).map (·.size)=some 16:=by kernel_rfl
theorem Ks (A) (k:Nat) (x) (w) (h:k<4) (i:A[k*48]?=some (.int .i64 x)):
 Calls prog 47 #[.agg A,k] w (κ w (.bool (!(x==0)))):=by
 have c:(k:Int)<4:=by omega
 have d:0<=(k:Int):=by omega
 by_cases a:x=0
 .subst a;go_enter func47,ntmps47;go_wp2;go_ret;exact⟨rfl,zB.alloc zL _⟩
 .have b:(x==0)=false:=by simpa using a
  have g:(x != 0)=true:=by simpa using a
  have f:=za a;clear a;go_enter func47,ntmps47;go_wp2;go_ret;rw[b];exact⟨rfl,zB.alloc zL _⟩
theorem RG (f) (k:Nat) (w) (a:k<4):
 Calls prog 47 #[.agg (encF f),k] w (κ w (.bool (uB f k))):=
 Ks _ k (f.nd k 0) w a (by have:=uh f k 0 a (by omega);rw[va]at this;rw[this];rfl)
def uF (f:Fo):Nat->Nat->Bool
 | 0=>emp
 | 1=>emp
 | k+2=>if uB f (k+1) then join (uF f (k+1)) (f.hs (k+1)) else uF f (k+1)
def sV (f:Fo):Nat->Nat->Bool
 | 0=>emp
 | k+1=>if uB f k then join (sV f k) (f.hs k) else sV f k
theorem QE (f) (n k) (c:1<=k) (h:uF f k n=true):∀m,uF f (k+m) n=true
 | 0=>h
 | m+1=>by
  have a:=QE f n k c h m;obtain⟨j,b⟩:∃j,k+m=j+1:=⟨k+m-1,by omega⟩;rw[show k+(m+1)=j+2 by omega];rw[b]at a;show (if uB f (j+1)=true then join (uF f (j+1)) (f.hs (j+1)) else uF f (j+1)) n=true;split
  .show (uF f (j+1) n||f.hs (j+1) n)=true;rw[a];rfl
  .exact a
theorem JV (A) (n:Nat) (d:256<=n) (w):
 Calls prog 168 #[.agg A,n] w (κ w (.bool false)):=by
 have a:decide ((n:Int)<256)=false:=by rw[zz];omega
 have b:¬(n:Int)<256:=by omega
 have c:decide (0<=(n:Int))=true:=by rw[yx];omega
 go_enter func168,ntmps168
 go_wp2;go_ret;exact⟨rfl,zB.alloc zL _⟩
theorem K4 (f) (A) (O:Hid (A=encF f)) (n) (P:n<256\/∀k,f.hs k n=false) (w):
 Calls prog 141 #[.agg A,(n:Int)] w (κ w (.bool (uF f 4 n))):=by
 have C:Hid (A.size=192):=by rw[O.o];exact vX f
 go_enter func141,ntmps141
 go_wp2;go_loopw [5] (λi wr=>∃k:Nat,1<=k/\k<=4/\i=.int .i64 k/\Hid (uF f k n=false)/\Hid (wr.heap[w.heap.size]?=some (.cells A 85))/\Below w w wr) (λi _=>4-(intOf i).toNat)
 .exact⟨1,by omega,by omega,rfl,rfl,zH,zB.alloc zL _⟩
 .obtain⟨k,K,N,rfl,F,y,z⟩:=hrel;by_cases p:k<4
  .have G:(k:Int)<4:=(by omega);have L:0<=(k:Int):=(by omega);obtain⟨j,rfl⟩:∃j,k=j+1:=⟨k-1,by omega⟩;generalize r:j+1=k at *
   have u:=za r;clear r;have B:Hid (∀W,Calls prog 47 #[.agg A,k] W (κ W (.bool (uB f k)))):=λW=>(by rw[O.o];exact RG f k W p);have b:Hid (uF f (k+1) n=(uB f k&&f.hs k n)):=by
    show _=_;have x:=F.o;rw[<-u.o]at x |-;show (if uB f (j+1)=true then join (uF f (j+1)) (f.hs (j+1)) else uF f (j+1)) n=_;cases uB f (j+1) with
    | true=>rw[ze rfl];show (uF f (j+1) n||f.hs (j+1) n)=_;rw[x];simp
    | false=>rw[zb (by simp),x];simp
   have l:Hid (∀W,Calls prog 168 #[.agg (enc (f.hs k)),n] W (κ W (.bool (f.hs k n)))):=λW=>by
    by_cases q:n<256
    .have:=Dv (f.hs k) (n:Int) W (by omega) (by omega);rw[yQ]at this;exact this
    .rw[(P.resolve_left q) k];exact JV _ n (by omega) W
   have I:Hid (∀j,j<(enc (f.hs k)).size->A[k*48+16+j]?=(enc (f.hs k))[j]?):=(by rw[O.o];exact Pg f k p);obtain⟨E,H⟩:=zA (enc (f.hs k));have v:Hid (E.size=32):=(by rw[H.o];exact tO _);rw[<-H.o]at l I;go_wp2_with (refine yI rfl 85 (.tmp 2) rfl w rfl 85 A (0,0) _ y.o forT rfl (by rw[C.o];exact forI) ?_)
   refine (B.o _).mono ?_;cases g:uB f k with
   | false=>
    rintro e J ⟨rfl,a⟩;rw[g]at b;have h:=za (xV a y.o);have d:=zi z a;clear g a;go_wp2;go_roundw
    .exact⟨k+1,by omega,by omega,by go_num,b.o,h,d⟩
    .simp[intOf];omega
   | true=>
    rintro e J ⟨rfl,a⟩;rw[g,Nq]at b;have h:=za (xV a y.o);have d:=zi z a;clear g a;go_wp2_with (refine uU (by kernel_rfl) 81 (.tmp 16) rfl w (k*48+16) rfl 85 A E (0,0) _ h.o I.o setT rfl (by rw[v.o];exact setI) ?_)
    refine (l.o _).mono ?_;cases t:f.hs k n with
    | true=>
     rintro e M ⟨rfl,c⟩;have m:=zi d c;have s:Hid (uF f 4 n=true):=(by have:=QE f n (k+1) (by omega) (by rw[b.o];exact t) (4-(k+1));rw[show k+1+(4-(k+1))=4 by omega]at this;exact this);clear t c;go_wp2;go_ret;rw[s.o];exact⟨rfl,m⟩
    | false=>
     rintro e M ⟨rfl,c⟩;have m:=zi d c;have D:=za (xV c h.o);rw[t]at b;clear t c;go_wp2;go_roundw
     .exact⟨k+1,by omega,by omega,by go_num,b.o,D,m⟩
     .simp[intOf];omega
  .obtain rfl:k=4:=(by omega);go_wp2;go_ret;rw[F.o];exact⟨rfl,z⟩
theorem Ky (f) (n:Nat) (a:n<256) (w):
 Calls prog 141 #[.agg (encF f),n] w (κ w (.bool (uF f 4 n))):=K4 f _ rfl n (zu a) w
theorem Kt (f) (A S4) (Y:Hid (A=encF f)) (Z:Hid (S4=enc (sV f 4))) (w):
 Calls prog 181 #[.agg A] w (κ w (.agg S4)):=by
 have I:Hid (A.size=192):=by rw[Y.o];exact vX f
 obtain⟨r,q⟩:=zA (enc emp);have P:∀w,(zeroValue 81).run prog w=.ok (.agg r) w:=by rw[q.o];exact setZ
 have U:=za P;clear P;go_enter func181,ntmps181;go_wp2_with (refine uo rfl 81 rfl r U.o ?_)
 go_loopw [5] (λi wr=>∃k:Nat,k<=4/\i=.int .i64 k/\Hid (wr.heap[w.heap.size]?=some (.cells A 85))/\Hid (wr.heap[w.heap.size+1]?=some (.cells r 81))/\Hid (wr.heap[w.heap.size+2]?=some (.cells (enc (sV f k)) 81))/\Below w w wr) (λi _=>4-(intOf i).toNat)
 .refine⟨0,by omega,rfl,?_,?_,?_,((zB.alloc zL _).alloc (by simp) _).alloc (by simp;omega) _⟩
  .exact un (un (zO w _) _) _
  .exact un (uD _ _ _ (by simp)) _
  .rw[show enc (sV f 0)=r from q.o.symm];exact uD _ _ _ (by simp)
 .obtain⟨k,V,rfl,C,y,v,D⟩:=hrel;by_cases s:k<4
  .have Q:(k:Int)<4:=(by omega);have T:0<=(k:Int):=(by omega);have H:Hid (∀W,Calls prog 47 #[.agg A,k] W (κ W (.bool (uB f k)))):=λW=>(by rw[Y.o];exact RG f k W s);have R:Hid (∀j,j<(enc (f.hs k)).size->A[k*48+16+j]?=(enc (f.hs k))[j]?):=(by rw[Y.o];exact Pg f k s);obtain⟨E,N⟩:=zA (enc (f.hs k));have z:Hid (E.size=32):=(by rw[N.o];exact tO _);rw[<-N.o]at R;obtain⟨S,h⟩:=zA (enc (sV f k));have b:Hid (S.size=32):=(by rw[h.o];exact tO _);rw[<-h.o]at v;go_wp2_with (refine yI rfl 85 (.tmp 1) rfl w rfl 85 A (0,0) _ C.o forT rfl (by rw[I.o];exact forI) ?_)
   refine (H.o _).mono ?_;cases g:uB f k with
   | false=>
    rintro e O ⟨rfl,a⟩;have n:Hid (sV f (k+1)=sV f k):=(by show (if uB f k=true then _ else _)=_;rw[g,zb (by simp)]);have l:=za (xV a C.o);have p:=za (xV a y.o);have c:Hid (O.heap[w.heap.size+2]?=some (.cells (enc (sV f (k+1))) 81)):=(by rw[n.o,<-h.o];exact xV a v.o);have m:=zi D a;clear g a;go_wp2;go_roundw
    .exact⟨k+1,by omega,by go_num,l,p,c,m⟩
    .simp[intOf];omega
   | true=>
    rintro e O ⟨rfl,a⟩;have n:Hid (sV f (k+1)=join (sV f k) (f.hs k)):=(by show (if uB f k=true then _ else _)=_;rw[g,ze rfl]);have l:=za (xV a C.o);have p:=za (xV a y.o);have c:=za (xV a v.o);have m:=zi D a;obtain⟨J,x⟩:=zA (enc (sV f (k+1)));have u:Hid (J.size=32):=(by rw[x.o];exact tO _);have B:Hid (J.all (·.oneCell')=true):=(by rw[x.o];exact Zx _);have M:Hid (∀W,Calls prog 212 #[.agg S,.agg E] W (κ W (.agg J))):=λW=>(by rw[h.o,N.o,x.o,n.o];exact GJ _ _ W);clear g a;go_wp2_with fail
    refine wp_region_still_tail 5 (by kernel_rfl) (by kernel_rfl) ?_;simp only[vu,xH,vv,vy];refine Zv (by kernel_rfl) 81 (.tmp 3) rfl (w.heap.size+2) 0 rfl 81 S S (0,0) _ c.o (Gc S) setT rfl (by rw[b.o];exact setI) ?_
    still_step
    still_step
    still_step
    refine Zv (by kernel_rfl) 81 (.tmp 14) rfl w (k*48+16) rfl 85 A E (0,0) _ l.o R.o setT rfl (by rw[z.o];exact setI) ?_;refine wpStill_nil ?_;go_wp2_with fail
    refine (M.o _).mono ?_;rintro e X ⟨rfl,d⟩;have L:=za (xV d l.o);have F:=za (xV d p.o);have t:=za (xV d c.o);have K:=zi m.drew d;clear d;go_wp2_with (refine Nl rfl 81 (.tmp 3) (.tmp 16) rfl (w.heap.size+2) J rfl rfl 81 S t.o (by rw[u.o];exact setI) (by rw[u.o,b.o]) B.o ?_)
    go_roundw
    .exact⟨k+1,by omega,by go_num,rF L.o _ _ (by omega),rF F.o _ _ (by omega),by rw[<-x.o];exact ya _ _ _ _ _ _ t.o,xd K (by omega) _⟩
    .simp[intOf];omega
  .obtain rfl:k=4:=(by omega);have b:Hid (S4.size=32):=(by rw[Z.o];exact tO _);have c:Hid (S4.all (·.oneCell')=true):=(by rw[Z.o];exact Zx _);have G:Hid (r.size=32):=(by rw[q.o];exact tO _);rw[<-Z.o]at v;go_wp2_with (first
    | (refine yI rfl 81 (.tmp 3) rfl (w.heap.size+2) rfl 81 S4 (0,0) _ v.o setT rfl (by rw[b.o];exact setI) ?_)
    | (refine Nl rfl 81 (.tmp 2) (.tmp 18) rfl (w.heap.size+1) S4 rfl rfl 81 r y.o (by rw[b.o];exact setI) (by rw[b.o,G.o]) c.o ?_))
   refine yE (tw rfl _ _ (w.heap.size+1) 81 S4 (0,0) _ rfl (ya _ _ _ _ _ _ y.o) setT rfl (by rw[b.o];exact setI)) rfl ⟨rfl,?_⟩;exact xd D (by omega) _
theorem Mg (f) (w):
 Calls prog 181 #[.agg (encF f)] w (κ w (.agg (enc (sV f 4)))):=Kt f _ _ rfl rfl w
def mR : Fo:=⟨λ_ _=>0,λ_=>emp⟩
theorem forZ: ∀w,(zeroValue 85).run prog w=.ok (.agg (encF mR)) w:=(ui (P:=prog) (t:=85) (v:=.agg (encF mR)) (n:=192) (by kernel_rfl)).1
theorem forB: prog.built 85 []=some (encF mR):=by kernel_rfl
def putT (f:Fo) (k:Nat):Fo:=⟨λa=>if a=k then f.nd 0 else f.nd a,λa=>if a=k then f.hs 0 else f.hs a⟩
section
variable {P : Program}
theorem PY {fn:Func} {p q r:Tmp} {ty:TypeId} (h:fn.results=#[.cell p ty,.tmp q,.tmp r]) (tmps:Array Value) (w) (g) (t) (cs) (fr) (d) (v1 v2)
 (hp:tmps.getD p undef=.pointer (some ⟨g,0,none⟩)) (h1:tmps.getD q undef=v1) (h2:tmps.getD r undef=v2) (hg:w.heap[g]?=some (.cells cs t fr))
 (hu:P.underlying ty=some d) (hd:(match d with|.struct _|.array _ _=>true|_=>false)=true) (hi:(P.info? ty).map (·.size)=some cs.size):
 (results fn tmps).run P w=.ok (.tuple #[.agg cs,v1,v2]) w:=by
 have c:tmps[p]?.getD undef=.pointer (some ⟨g,0,none⟩):=by simpa using hp
 have a:tmps[q]?.getD undef=v1:=by simpa using h1
 have b:tmps[r]?.getD undef=v2:=by simpa using h2
 simp[results,h,c,a,b,asAddr,nx w g t ty cs fr d hg hu hd hi]
theorem kQ {fn:Func} {p q:Tmp} {ty:TypeId} (h:fn.results=#[.cell p ty,.tmp q]) (tmps) (w:World) (g:Nat) (t) (cs) (fr) (d) (v1:Value)
 (hp:tmps.getD p undef=.pointer (some ⟨g,0,none⟩)) (h1:tmps.getD q undef=v1) (hg:w.heap[g]?=some (.cells cs t fr))
 (hu:P.underlying ty=some d) (hd:(match d with|.struct _|.array _ _=>true|_=>false)=true) (hi:(P.info? ty).map (·.size)=some cs.size):
 (results fn tmps).run P w=.ok (.tuple #[.agg cs,v1]) w:=by
 have b:tmps[p]?.getD undef=.pointer (some ⟨g,0,none⟩):=by simpa using hp
 have a:tmps[q]?.getD undef=v1:=by simpa using h1
 simp[results,h,b,a,asAddr,nx w g t ty cs fr d hg hu hd hi]
end
theorem Ht (f) (k) (m:k<4):((encF f).toList.take (k*48)++(encT f 0).toList++(encF f).toList.drop (k*48+(encT f 0).size)).toArray=encF (putT f k):=by
 apply yV;intro i;rw[sf];by_cases l:i<192
 .obtain⟨a,j,e,c,rfl⟩:∃a j,a<4/\j<48/\i=a*48+j:=⟨i / 48,i%48,by omega,by omega,by omega⟩;rw[uh _ a j e c,xw];have b:((encF f).toList.take (k*48)).length=k*48:=by rw[Ni,ye,vX];omega
  have d:(encT f 0).toList.length=48:=by rw[ye,sf]
  by_cases h:a<k
  .rw[zR,zV (by omega),zI,ze (by omega),zK,uh f a j e c];unfold nu putT;simp only[zb (by omega:¬a=k)]
  .by_cases g:a=k
   .subst g;rw[zR,zx (by omega),zV (by omega),b,show a*48+j-a*48=j by omega,zK,mu f 0 j c];unfold nu putT;simp only[Mt]
   .rw[zx (by rw[zl];omega),zl,b,d,yy,show k*48+48+(a*48+j-(k*48+48))=a*48+j by omega,zK,uh f a j e c];unfold nu putT;simp only[zb g]
 .rw[zY (by simp[vX,sf];omega),zY (by rw[vX];omega)]
def W8 (f:Fo):Option Nat:=if uB f 1=false then some 1 else if uB f 2=false then some 2 else if uB f 3=false then some 3 else none
def uQ (f:Fo):Fo×Nat×Int:=if uB f 0=true then (match W8 f with|some k=>(putT f k,k,0)|none=>(mR,0,6)) else (mR,0,4)
theorem YM {f:Fo} (c:1<=k) (d:k<4) (a:∀j,1<=j->j<k->uB f j=true) (b:uB f k=false):W8 f=some k:=by
 unfold W8
 match k,c,d with
 | 1,_,_=>rw[ze b]
 | 2,_,_=>rw[zb (by rw[a 1 (by omega) (by omega)];simp),ze b]
 | 3,_,_=>rw[zb (by rw[a 1 (by omega) (by omega)];simp),zb (by rw[a 2 (by omega) (by omega)];simp),ze b]
theorem YN {f:Fo} (a:∀j,1<=j->j<4->uB f j=true):W8 f=none:=by unfold W8;rw[zb (by rw[a 1 (by omega) (by omega)];simp),zb (by rw[a 2 (by omega) (by omega)];simp),zb (by rw[a 3 (by omega) (by omega)];simp)]
theorem IV (f) (A X) (n) (c) (HA:Hid (A=encF f)) (HX:Hid (X=encF (uQ f).1)) (Hn:Hid (n=(uQ f).2.1)) (Hc:Hid (c=(uQ f).2.2)) (w):
 Calls prog 45 #[.agg A] w (κ w (.tuple #[.agg X,(n:Int),(c:Int)])):=by
 have z:Hid (A.size=192):=by rw[HA.o];exact vX f
 have p:Hid (X.size=192):=by rw[HX.o];exact vX _
 have Y:Hid (X.all (·.oneCell')=true):=by rw[HX.o];exact pS _
 obtain⟨m,g⟩:=zA (encF mR);have T:Hid (∀w,(zeroValue 85).run prog w=.ok (.agg m) w):=by rw[g.o];exact forZ
 have af:Hid (prog.built 85 []=some m):=by rw[g.o];exact forB
 have h:Hid (m.size=192):=by rw[g.o];exact vX _
 have G:Hid (m.all (·.oneCell')=true):=by rw[g.o];exact pS _
 have E:Hid (∀(k:Nat) (W),k<4->Calls prog 47 #[.agg A,k] W (κ W (.bool (uB f k)))):=λk W hk=>by rw[HA.o];exact RG f k W hk
 go_enter func45,ntmps45
 go_wp2_with (first
  | (refine uo rfl 85 rfl m T.o ?_)
  | (refine yI rfl 85 (.tmp 1) rfl w rfl 85 A (0,0) _ (wW w _ _) forT rfl (by rw[z.o];exact forI) ?_))
 refine (E.o 0 _ (by omega)).mono ?_;cases H:uB f 0 with
 | false=>
  rintro e w1 ⟨rfl,b⟩;have s:=za (xV b (wh w _ _));have x:=zi ((zB.alloc zL _).alloc (by simp) _) b;have d:uQ f=(mR,0,4):=by unfold uQ;rw[zb (by rw[H];simp)]
  have S:X=m:=by rw[HX.o,d,g.o]
  have F:n=0:=by rw[Hn.o,d]
  have C:c=4:=by rw[Hc.o,d]
  clear H d b;subst S F C;have hz:=T.o;go_wp2_with (first
   | (refine Nl rfl 85 (.tmp 2) (.tmp 9) rfl (w.heap.size+1) X rfl rfl 85 X s.o (by rw[h.o];exact forI) rfl G.o ?_))
  refine yE (PY rfl _ _ (w.heap.size+1) 85 X (0,0) _ (.int .i64 0) (.int .i64 4) rfl rfl rfl (ya _ _ _ _ _ _ s.o) forT rfl (by rw[h.o];exact forI)) rfl ⟨rfl,?_⟩;exact xd x (by omega) _
 | true=>
  rintro e w1 ⟨rfl,b⟩;have U:Hid (w1.heap[w.heap.size]?=some (.cells A 85)):=xV b (wW w _ _);have s:=za (xV b (wh w _ _));have x:=zi ((zB.alloc zL _).alloc (by simp) _) b;have H0:=za H;clear H b;go_wp2;go_loopw [5] (λi wr=>∃k:Nat,1<=k/\k<=4/\i=.int .i64 k/\Hid (∀j,1<=j->j<k->uB f j=true)/\Hid (wr.heap[w.heap.size]?=some (.cells A 85))/\Hid (wr.heap[w.heap.size+1]?=some (.cells m 85))/\Below w w wr) (λi _=>4-(intOf i).toNat)
  .exact⟨1,by omega,by omega,rfl,λj h1 h2=>by omega,U,s,x⟩
  .obtain⟨k,J,hk,rfl,P,K,I,M⟩:=hrel;by_cases u:k<4
   .have ae:(k:Int)<4:=(by omega);have ah:0<=(k:Int):=(by omega);go_wp2_with (refine yI rfl 85 (.tmp 1) rfl w rfl 85 A (0,0) _ K.o forT rfl (by rw[z.o];exact forI) ?_)
    refine (E.o k _ u).mono ?_;cases q:uB f k with
    | true=>
     rintro e V ⟨rfl,a⟩;have l:=za (xV a K.o);have y:=za (xV a I.o);have B:=zi M a;have N:Hid (∀j,1<=j->j<k+1->uB f j=true):=λj h1 h2=>by
      by_cases e:j=k
      .rw[e];exact q
      .exact P.o j h1 (by omega)
     clear q a;go_wp2;go_roundw
     .exact⟨k+1,by omega,by omega,by go_num,N,l,y,B⟩
     .simp[intOf];omega
    | false=>
     rintro e V ⟨rfl,a⟩;have l:=za (xV a K.o);have y:=za (xV a I.o);have B:=zi M a;have d:uQ f=(putT f k,k,0):=(by unfold uQ;rw[ze H0.o,YM J u P.o q]);have R:Hid (X=encF (putT f k)):=(by rw[HX.o,d];exact rfl);have F:n=k:=(by rw[Hn.o,d]);have C:c=0:=(by rw[Hc.o,d]);obtain⟨t,r⟩:=zA (encT f 0);have v:Hid (t.size=48):=(by rw[r.o];exact sf _ _);have Q:Hid (t.all (·.oneCell')=true):=(by rw[r.o];exact fV _ _);have Z:Hid (∀j,j<t.size->A[0+j]?=t[j]?):=(by have:=Rm f 0 (by omega);rw[uO,<-r.o,<-HA.o]at this;exact this);have L:Hid ((A.toList.take (k*48)++t.toList++A.toList.drop (k*48+t.size)).toArray=X):=(by rw[HA.o,r.o,R.o];exact Ht f k u);have O:Hid ((V.setRow w X).heap[w.heap.size]?=some (.cells X 85)):=ya _ _ _ _ _ _ l.o;have D:Hid ((V.setRow w X).heap[w.heap.size+1]?=some (.cells m 85)):=rF y.o _ _ (by omega);clear q a d;subst F C;go_wp2_with (first
      | (refine uU (by kernel_rfl) 83 (.tmp 19) rfl w 0 rfl 85 A t (0,0) _ l.o Z.o underlying83 rfl (by rw[v.o];exact Od) ?_)
      | (refine rT rfl 83 (.tmp 21) (.tmp 20) rfl w (n*48) t rfl rfl 85 A X l.o (by rw[v.o];exact Od) (by rw[v.o,z.o];omega) Q.o L.o ?_)
      | (refine yI rfl 85 (.tmp 1) rfl w rfl 85 X (0,0) _ O.o forT rfl (by rw[p.o];exact forI) ?_)
      | (refine Nl rfl 85 (.tmp 2) (.tmp 22) rfl (w.heap.size+1) X rfl rfl 85 m D.o (by rw[p.o];exact forI) (by rw[h.o,p.o]) Y.o ?_))
     refine yE (PY rfl _ _ (w.heap.size+1) 85 X (0,0) _ (.int .i64 (n:Int)) (.int .i64 0) rfl rfl rfl (ya _ _ _ _ _ _ D.o) forT rfl (by rw[p.o];exact forI)) rfl ⟨rfl,?_⟩;exact xd (xd B zL _) (by omega) _
   .obtain rfl:k=4:=(by omega);have d:uQ f=(mR,0,6):=(by unfold uQ;rw[ze H0.o,YN P.o]);have S:X=m:=(by rw[HX.o,d,g.o]);have F:n=0:=(by rw[Hn.o,d]);have C:c=6:=(by rw[Hc.o,d]);clear d;subst S F C;have hz:=T.o;go_wp2_with (first
     | (refine Nl rfl 85 (.tmp 2) (.tmp 24) rfl (w.heap.size+1) X rfl rfl 85 X I.o (by rw[h.o];exact forI) rfl G.o ?_))
    refine yE (PY rfl _ _ (w.heap.size+1) 85 X (0,0) _ (.int .i64 0) (.int .i64 6) rfl rfl rfl (ya _ _ _ _ _ _ I.o) forT rfl (by rw[h.o];exact forI)) rfl ⟨rfl,?_⟩;exact xd M (by omega) _
def gE (x:Int):Bool:=decide (x<0)||decide (256<=x)
def badN (f:Fo) (k:Nat):Bool:=(List.range 16).any λi=>gE (f.nd k i)
def Vp (f:Fo) (k:Nat):Bool:=uf (encT f k) (encT mR 0) 0 48
def badT (f:Fo) (k:Nat):Bool:= !uB f k&&!Vp f k
def fD (f:Fo):Int:=if badN f 0=true then 1 else if badT f 0=true then 3 else if badN f 1=true then 1 else if badT f 1=true then 3 else if badN f 2=true then 1 else if badT f 2=true then 3 else if badN f 3=true then 1 else if badT f 3=true then 3 else 0
def Pu (f:Fo) (k:Nat):Prop:=badN f k=false/\badT f k=false
theorem QH {f:Fo} (e:k<4) (d:∀j,j<k->Pu f j) (h:badN f k=true):fD f=1:=by
 unfold fD
 match k,e with
 | 0,_=>rw[ze h]
 | 1,_=>
  have a:=d 0 (by omega);rw[a.1,a.2,zb (by simp),zb (by simp),ze h]
 | 2,_=>
  have a:=d 0 (by omega);have b:=d 1 (by omega);rw[a.1,a.2,b.1,b.2,zb (by simp),zb (by simp),zb (by simp),zb (by simp),ze h]
 | 3,_=>
  have a:=d 0 (by omega);have b:=d 1 (by omega);have c:=d 2 (by omega);rw[a.1,a.2,b.1,b.2,c.1,c.2,zb (by simp),zb (by simp),zb (by simp),zb (by simp),zb (by simp),zb (by simp),ze h]
theorem Vh {f:Fo} (g:k<4) (d:∀j,j<k->Pu f j) (e:badN f k=false) (h:badT f k=true):fD f=3:=by
 unfold fD
 match k,g with
 | 0,_=>rw[e,zb (by simp),ze h]
 | 1,_=>
  have a:=d 0 (by omega);rw[a.1,a.2,e,zb (by simp),zb (by simp),zb (by simp),ze h]
 | 2,_=>
  have a:=d 0 (by omega);have b:=d 1 (by omega);rw[a.1,a.2,b.1,b.2,e,zb (by simp),zb (by simp),zb (by simp),zb (by simp),zb (by simp),ze h]
 | 3,_=>
  have a:=d 0 (by omega);have b:=d 1 (by omega);have c:=d 2 (by omega);rw[a.1,a.2,b.1,b.2,c.1,c.2,e,zb (by simp),zb (by simp),zb (by simp),zb (by simp),zb (by simp),zb (by simp),zb (by simp),ze h]
theorem PE {f:Fo} (e:∀j,j<4->Pu f j):fD f=0:=by unfold fD;have a:=e 0 (by omega);have b:=e 1 (by omega);have c:=e 2 (by omega);have d:=e 3 (by omega);rw[a.1,a.2,b.1,b.2,c.1,c.2,d.1,d.2,zb (by simp),zb (by simp),zb (by simp),zb (by simp),zb (by simp),zb (by simp),zb (by simp),zb (by simp)]
theorem j6 {f:Fo} {i:Nat} (a:i<16) (h:gE (f.nd k i)=true):badN f k=true:=by unfold badN;rw[xO];exact⟨i,xy.2 a,h⟩
theorem TK {f:Fo} (h:∀i,i<16->gE (f.nd k i)=false):badN f k=false:=by
 cases a:badN f k with
 | false=>rfl
 | true=>
  unfold badN at a;rw[xO]at a;obtain⟨i,b,a⟩:=a;rw[h i (xy.1 b)]at a;cases a
theorem Ok (f g) (k j):NK (encT f k) (encT g j) 0 48:=λi a=>by
 rw[yF,mu f k i a,mu g j i a];unfold nu;by_cases h:i<16
 .rw[ze h,ze h];exact⟨_,_,_,rfl,rfl⟩
 .rw[zb h,zb h];exact⟨_,_,_,rfl,rfl⟩
theorem intS: (prog.info? 3).map (·.size)=some 1:=by kernel_rfl
theorem intT: prog.underlying 3=some (.int .i64):=by kernel_rfl
theorem pL: prog.underlying 79=some (.array 16 3):=by kernel_rfl
theorem Id: Zu prog 9999 79 (16*1):=Pw (d:=9998) pL intS (by kernel_rfl) (Zc (d:=9997) intT)
theorem eqSets: Zu prog 9999 81 (32*1):=Pw (d:=9998) setT byteI (by kernel_rfl) (Zc (d:=9997) byteT)
theorem ie (f g) (k j) (w):(Op.equalIn 10000 83 (.agg (encT f k)) (.agg (encT g j))).run prog w=.ok (uf (encT f k) (encT g j) 0 48) w:=
 Qc (d:=9999) underlying83 (by kernel_rfl) (by decide) (by decide) rfl rfl Id eqSets _ _ w (Ok f g k j)
theorem treeZ: ∀w,(zeroValue 83).run prog w=.ok (.agg (encT mR 0)) w:=(ui (P:=prog) (t:=83) (v:=.agg (encT mR 0)) (n:=48) (by kernel_rfl)).1
theorem EC (
 f) (A) (c) (HA:Hid (A=encF f)) (Hc:Hid (c=fD f)) (w):
 Calls prog 126 #[.agg A] w (κ w (c:Int)):=by
 have L:Hid (A.size=192):=by rw[HA.o];exact vX f
 obtain⟨Q,C⟩:=zA (encT mR 0);have HZ:Hid (∀w,(zeroValue 83).run prog w=.ok (.agg Q) w):=by rw[C.o];exact treeZ
 have K:Hid (∀(k:Nat) (W),k<4->Calls prog 47 #[.agg A,k] W (κ W (.bool (uB f k)))):=λk W U=>by rw[HA.o];exact RG f k W U
 go_enter func126,ntmps126
 go_wp2;go_loopw [6] (λi wr=>∃k:Nat,k<=4/\i=.int .i64 k/\Hid (∀j,j<k->Pu f j)/\Hid (wr.heap[w.heap.size]?=some (.cells A 85))/\Below w w wr) (λi _=>4-(intOf i).toNat)
 .exact⟨0,by omega,rfl,λj h=>by omega,zH,zB.alloc zL _⟩
 .obtain⟨k,U,rfl,u,F,B⟩:=hrel;by_cases d:k<4
  .have V:(k:Int)<4:=(by omega);have aa:0<=(k:Int):=(by omega);obtain⟨v,s⟩:=zA (encN f k);have H:Hid (v.size=16):=(by rw[s.o];exact Px _ _);have M:Hid (∀j,j<v.size->A[k*48+j]?=v[j]?):=(by rw[s.o,HA.o];exact QY f k d);obtain⟨S,G⟩:∃S:World,S=wr:=⟨_,rfl⟩;subst G;go_wp2_with (refine uU (by kernel_rfl) 79 (.tmp 11) rfl w (k*48) rfl 85 A v (0,0) _ F.o M.o pL rfl (by rw[H.o];exact Uv) ?_)
   go_loop [13] (λi=>∃j:Nat,j<=16/\i=.int .i64 j/\Hid (∀a,a<j->gE (f.nd k a)=false)) (λi=>16-(intOf i).toNat)
   .exact⟨0,by omega,rfl,λa h=>by omega⟩
   .obtain⟨j,hj,rfl,P⟩:=hrel;by_cases n:j<16
    .have Y:(j:Int)<16:=(by omega);obtain⟨x,E⟩:=zA (f.nd k j);have R:∀W,(Instr.index 79 (.agg v) (.int .i64 j)).run prog W=.ok (.int .i64 x) W:=λW=>
      jr _ _ 16 .i64 v .i64 (j:Int) pL intT intS (by omega) (by omega) _ (by rw[yQ,s.o,fX f k j n,E.o];unfold nu;rw[ze n]) W
     by_cases O:x<0
     .have t:Hid (c=1):=(by rw[Hc.o];exact QH d u.o (j6 n (by rw[<-E.o];simp[gE,O])));go_wp2;go_ret;rw[t.o];exact⟨rfl,B⟩
     .by_cases X:256<=x
      .have t:Hid (c=1):=(by rw[Hc.o];exact QH d u.o (j6 n (by rw[<-E.o];simp[gE,X])));go_wp2;go_ret;rw[t.o];exact⟨rfl,B⟩
      .have J:Hid (∀a,a<j+1->gE (f.nd k a)=false):=λa ha=>by
        by_cases e:a=j
        .rw[e,<-E.o];simp[gE,O,X]
        .exact P.o a (by omega)
       go_wp2
       go_round
       .exact⟨j+1,by omega,by go_num,J⟩
       .simp[intOf];omega
    .obtain rfl:j=16:=(by omega);have r:=za (TK P.o);obtain⟨T,N⟩:=zA (encT f k);have y:Hid (T.size=48):=(by rw[N.o];exact sf _ _);have D:Hid (∀j,j<T.size->A[k*48+j]?=T[j]?):=(by rw[N.o,HA.o];exact Rm f k d);have I:Hid (∀W,(Op.equalIn 10000 83 (.agg T) (.agg Q)).run prog W=.ok (Vp f k) W):=λW=>(by rw[N.o,C.o];exact ie f mR k 0 W);go_wp2_with (refine yI rfl 85 (.tmp 1) rfl w rfl 85 A (0,0) _ F.o forT rfl (by rw[L.o];exact forI) ?_)
     refine (K.o k _ d).mono ?_;cases g:uB f k with
     | true=>
      rintro e w2 ⟨rfl,b⟩;have m:=za (xV b F.o);have p:=zi B b;have q:Hid (∀j,j<k+1->Pu f j):=λj Z=>by
       by_cases e:j=k
       .rw[e];exact⟨r.o,by unfold badT;rw[g];rfl⟩
       .exact u.o j (by omega)
      clear g b;go_wp2;go_roundw
      .exact⟨k+1,by omega,by go_num,q,m,p⟩
      .simp[intOf];omega
     | false=>
      rintro e w2 ⟨rfl,b⟩;have m:=za (xV b F.o);have p:=zi B b;have hz:=HZ.o;have z:=I.o;cases l:Vp f k with
      | true=>
       rw[l]at z;have q:Hid (∀j,j<k+1->Pu f j):=λj Z=>by
        by_cases e:j=k
        .rw[e];exact⟨r.o,by unfold badT;rw[g,l];rfl⟩
        .exact u.o j (by omega)
       clear g b l;go_wp2_with (refine uU (by kernel_rfl) 83 (.tmp 29) rfl w (k*48) rfl 85 A T (0,0) _ m.o D.o underlying83 rfl (by rw[y.o];exact Od) ?_)
       go_roundw
       .exact⟨k+1,by omega,by go_num,q,m,p⟩
       .simp[intOf];omega
      | false=>
       rw[l]at z;have t:Hid (c=3):=(by rw[Hc.o];exact Vh d u.o r.o (by unfold badT;rw[g,l];rfl));clear g b l;go_wp2_with (refine uU (by kernel_rfl) 83 (.tmp 29) rfl w (k*48) rfl 85 A T (0,0) _ m.o D.o underlying83 rfl (by rw[y.o];exact Od) ?_)
       go_ret;rw[t.o];exact⟨rfl,p⟩
  .obtain rfl:k=4:=(by omega);have t:Hid (c=0):=(by rw[Hc.o];exact PE u.o);go_wp2;go_ret;rw[t.o];exact⟨rfl,B⟩
theorem N5 (f) (w):
 Calls prog 126 #[.agg (encF f)] w (κ w (fD f:Int)):=EC f _ _ rfl rfl w
def Ln (f:Fo):List Int:=(List.range 64).map λm=>f.nd (m / 16) (m%16)
def Ls (f:Fo):List Int:=(List.range 128).map λm=>(sg (f.hs (m / 32)) (m%32))
def uc (f:Fo):List Int:=Ln f++Ls f
theorem QR (f):(Ln f).length=64:=by simp[Ln]
theorem Yx (f):(Ls f).length=128:=by simp[Ls]
theorem nn (f):(uc f).length=192:=by simp[uc,QR,Yx]
theorem Yz (f) (k i) (a:k<4) (b:i<16):(Ln f)[k*16+i]?=some (f.nd k i):=by unfold Ln;rw[xE,uK (by omega)];simp only[nG];rw[show (k*16+i) / 16=k by omega,show (k*16+i)%16=i by omega]
theorem Yy (f) (k i) (a:k<4) (b:i<32):(Ls f)[k*32+i]?=some (sg (f.hs k) i:Int):=by unfold Ls;rw[xE,uK (by omega)];simp only[nG];rw[show (k*32+i) / 32=k by omega,show (k*32+i)%32=i by omega]
theorem iD {α:Type} (l:List α) (n) (x) (h:l[n]?=some x):l.take (n+1)=l.take n++[x]:=by obtain⟨a,rfl⟩:=zG.1 h;rw[zU a]
def setL (f:Fo) (k:Nat):List Int:=(List.range 32).map λi=>(sg (f.hs k) i)
theorem Iv (f) (k) (d:k<4):(Ls f).take ((k+1)*32)=(Ls f).take (k*32)++setL f k:=by
 apply wV;intro i;have b:((Ls f).take (k*32)).length=k*32:=by rw[Ni,Yx];omega
 by_cases c:i<k*32
 .rw[zV (by omega),zI,zI,ze c,ze (by omega)]
 .rw[zx (by omega),b,zI];by_cases a:i<(k+1)*32
  .rw[ze a];obtain⟨j,rfl⟩:∃j,i=k*32+j:=⟨i-k*32,by omega⟩;rw[Yy f k j d (by omega),show k*32+j-k*32=j by omega];unfold setL;rw[xE,uK (by omega)];rfl
  .rw[zb a,yW (by simp[setL];omega)]
theorem X8 (f) (k):(setL f k).length=32:=by simp[setL]
theorem Qh {f:Fo} (h:fD f=0) (k i) (n:k<4) (o:i<16):0<=f.nd k i/\f.nd k i<=255:=by
 have b:badN f k=false:=by
  cases a:badN f k with
  | false=>rfl
  | true=>
   exfalso;unfold fD at h;by_cases e:badN f 0=true
   .rw[ze e]at h;cases h
   rw[zb e]at h;by_cases m:badT f 0=true
   .rw[ze m]at h;cases h
   rw[zb m]at h;by_cases d:badN f 1=true
   .rw[ze d]at h;cases h
   rw[zb d]at h;by_cases j:badT f 1=true
   .rw[ze j]at h;cases h
   rw[zb j]at h;by_cases c:badN f 2=true
   .rw[ze c]at h;cases h
   rw[zb c]at h;by_cases g:badT f 2=true
   .rw[ze g]at h;cases h
   rw[zb g]at h;by_cases l:badN f 3=true
   .rw[ze l]at h;cases h
   match k,n with
   | 0,_=>exact e a
   | 1,_=>exact d a
   | 2,_=>exact c a
   | 3,_=>exact l a
 have:gE (f.nd k i)=false:=by
  cases a:gE (f.nd k i) with
  | false=>rfl
  | true=>rw[j6 o a]at b;cases b
 simp[gE]at this;omega
theorem Kb: (prog.info? 5).map (λi=>(i.zero,i.size,i.bytes))=some (some (.int .u8 0),1,1):=by kernel_rfl
theorem Lr: prog.underlying 38=some (.slice 5):=by kernel_rfl
theorem ES (f) (A) (c) (i:Hid (A=encF f)) (j:Hid (c=fD f)) (k:(c != 0)=true) (w):
 Calls prog 88 #[.agg A] w (κ w (.tuple #[.slice none 0 0,(c:Int)])):=by
 have d:Hid (A.size=192):=by rw[i.o];exact vX f
 have b:Hid (∀W,Calls prog 126 #[.agg A] W (κ W c)):=λW=>by rw[i.o,j.o];exact N5 f W
 go_enter func88,ntmps88
 go_wp2_with (refine yI rfl 85 (.tmp 1) rfl w rfl 85 A (0,0) _ (zO w _) forT rfl (by rw[d.o];exact forI) ?_)
 refine (b.o _).mono ?_;rintro e h ⟨rfl,a⟩;have g:=zi (zB.alloc zL _) a;clear a;go_wp2;go_ret2;exact⟨rfl,g⟩
def N8 (f:Fo) (w:World) (e:Ending) (w':World):Prop:=
 ∃v,e=.returned (.tuple #[v,()])/\w'.ownsRow (w.heap.size+1) 5 1 v 192 (u8s (uc f))/\Below w w w'
theorem CQ (
 f:Fo) (A:Array Value) (HA:Hid (A=encF f)) (hr:fD f=0) (w:World):
 Calls prog 88 #[.agg A] w (N8 f w):=by
 have ak:Hid (A.size=192):=by rw[HA.o];exact vX f
 have U:=za (λk i Z S=>Qh hr k i Z S);have ac:Hid (∀W:World,Calls prog 126 #[.agg A] W (κ W ())):=λW=>by rw[HA.o,<-hr];exact N5 f W
 obtain⟨i0,S,H,O,J⟩:=yX Kb;have HI:=za S;have P:=za H;have R:=za O;have I:=za J;clear S H O J hr;go_enter func88,ntmps88;go_wp2_with (refine yI rfl 85 (.tmp 1) rfl w rfl 85 A (0,0) _ (zO w _) forT rfl (by rw[ak.o];exact forI) ?_)
 refine (ac.o _).mono ?_;rintro e w1 ⟨rfl,D⟩;have T:Below w w w1:=zi (zB.alloc zL _) D;have X:Hid (w1.heap[w.heap.size]?=some (.cells A 85)):=xV D (zO w _);clear D;go_wp2;go_loopw [5,15] (λv i wr=>∃k:Nat,k<=4/\i=.int .i64 k/\Hid (wr.ownsRow (w.heap.size+1) 5 1 v (k*16) (u8s ((Ln f).take (k*16))))/\Hid (wr.heap[w.heap.size]?=some (.cells A 85))/\Below w w wr) (λ_ i _=>4-(intOf i).toNat)
 .exact⟨0,by omega,rfl,yL _ _ _ _,X,T⟩
 .obtain⟨k,Z,rfl,HO,Y,HB⟩:=hrel;by_cases h:k<4
  .have Q:(k:Int)<4:=(by omega);have aa:(0:Int)<=(k:Int):=(by omega);obtain⟨E,B⟩:=zA (encN f k);have ai:Hid (E.size=16):=(by rw[B.o];exact Px _ _);have ae:Hid (∀j,j<E.size->A[k*48+j]?=E[j]?):=(by rw[B.o,HA.o];exact QY f k h);obtain⟨N,C⟩:∃N:World,N=wr:=⟨_,rfl⟩;subst C;obtain⟨F,t⟩:∃F:Value,F=u5:=⟨_,rfl⟩;subst t;go_wp2_with (refine uU (by kernel_rfl) 79 (.tmp 20) rfl w (k*48) rfl 85 A E (0,0) _ Y.o ae.o pL rfl (by rw[ai.o];exact Uv) ?_)
   go_loopw [5,22] (λv i wr=>∃j:Nat,j<=16/\i=.int .i64 j/\Hid (wr.ownsRow (w.heap.size+1) 5 1 v (k*16+j) (u8s ((Ln f).take (k*16+j))))/\Hid (wr.heap[w.heap.size]?=some (.cells A 85))/\Below w w wr) (λ_ i _=>16-(intOf i).toNat)
   .exact⟨0,by omega,rfl,HO,Y,HB⟩
   .obtain⟨j,G,rfl,c,g,l⟩:=hrel;by_cases m:j<16
    .have an:(j:Int)<16:=(by omega);obtain⟨x,Hx⟩:=zA (f.nd k j);have hx:=U.o k j h m;rw[<-Hx.o]at hx;obtain⟨ax,az⟩:=hx;have au:∀W:World,(Instr.index 79 (.agg E) (.int .i64 (j:Int))).run prog W=.ok (.int .i64 x) W:=λW=>
      jr _ _ 16 .i64 E .i64 (j:Int) pL intT intS (by omega) (by omega) _ (by rw[yQ,B.o,fX f k j m,Hx.o];unfold nu;rw[ze m]) W
     have V:w.heap.size<wr.heap.size:=xB g.o;obtain⟨q,cq,hv,_⟩:=rU c.o;subst hv;have b:=(c.o.alloc (.cells #[.int .u8 x] 5)).lt;go_wp2_with (at_builtin;refine yw _ rfl _ _ 38 rfl (w.heap.size+1) 5 i0 (.int .u8 0) 1 1 Lr HI.o P.o R.o I.o rfl (by decide) _ _ _ rfl (c.o.alloc _) ⟨wr.heap.size,0,none⟩ 1 1 [.int .u8 x] rfl rfl (λj u y=>Ru _ #[.int .u8 x] _ j u y) (λu y=>by simp at y;subst y;rfl) (by unfold maxLen;omega) (by omega) (by simp;omega) ?_;intro v' p d a _)
     have n:Hid (p.ownsRow (w.heap.size+1) 5 1 v' (k*16+(j+1)) (u8s ((Ln f).take (k*16+(j+1))))):=(by rw[<-yp,iD (Ln f) (k*16+j) x (by rw[Hx.o];exact Yz f k j h m),pX];exact d);have s:Hid (p.heap[w.heap.size]?=some (.cells A 85)):=(a.block w (by simp;omega) (λe=>by have:=(b w e.symm).1;omega)).trans (un g.o _);have z:Below w w p:=Cd (l.alloc l.size _) a (by simp;omega) (λr hr=>by have:=(b r hr).1;omega);clear d a b;go_wp2;go_roundw
     .exact⟨j+1,by omega,by go_num,n,s,z⟩
     .simp[intOf];omega
    .obtain rfl:j=16:=(by omega);go_wp2;go_roundw
     .exact⟨k+1,by omega,by go_num,by rw[show (k+1)*16=k*16+16 by omega];exact c,g,l⟩
     .simp[intOf];omega
  .have aj:Hid (k=4):=(by show _=_;omega);have ap:¬(k:Int)<4:=(by omega);obtain⟨k0,M⟩:∃k0:Nat,k0=k:=⟨_,rfl⟩;subst M;have ab:Hid (wr.ownsRow (w.heap.size+1) 5 1 u5 (64+0*32) (u8s (Ln f++(Ls f).take (0*32)))):=(by have:=HO.o;rw[aj.o]at this;rw[zo (by rw[QR];omega)]at this;rw[uO,xH,yY];exact this);clear HO;obtain⟨F,t⟩:∃F:Value,F=u5:=⟨_,rfl⟩;subst t;obtain⟨N,C⟩:∃N:World,N=wr:=⟨_,rfl⟩;subst C;go_wp2;go_loopw [5,32] (λv i wr=>∃k:Nat,k<=4/\i=.int .i64 k/\Hid (wr.ownsRow (w.heap.size+1) 5 1 v (64+k*32) (u8s (Ln f++(Ls f).take (k*32))))/\Hid (wr.heap[w.heap.size]?=some (.cells A 85))/\Below w w wr) (λ_ i _=>4-(intOf i).toNat)
   .exact⟨0,by omega,rfl,ab,Y,HB⟩
   .obtain⟨k,Z,rfl,c,g,l⟩:=hrel;by_cases h:k<4
    .have Q:(k:Int)<4:=(by omega);have aa:(0:Int)<=(k:Int):=(by omega);have V:w.heap.size<wr.heap.size:=xB g.o;have al:Hid (∀(j:Nat) (u:Value),(u8s (setL f k))[j]?=some u->wr.cell? ((⟨w.heap.size,k*48+16,none⟩:Addr).add j)=some u):=λj u y=>(by have G:=(zG.1 y).1;rw[wd,X8]at G;have K:(⟨w.heap.size,k*48+16,none⟩:Addr).add j=⟨w.heap.size,k*48+16+j,none⟩:=(by unfold Addr.add;split<;>simp_all);rw[K,zC g.o,HA.o,Pg f k h j (by rw[tO];exact G),Nx _ _ G,<-y];unfold u8s setL;rw[xE,xE,uK G];rfl);obtain⟨q,cq,hv,_⟩:=rU c.o;subst hv;have b:=c.o.lt;go_wp2_with (at_builtin;refine yw _ rfl _ _ 38 rfl (w.heap.size+1) 5 i0 (.int .u8 0) 1 1 Lr HI.o P.o R.o I.o rfl (by decide) _ _ _ rfl c.o ⟨w.heap.size,k*48+16,none⟩ 32 32 (u8s (setL f k)) rfl (by rw[wd,X8]) al.o (gZ _) (by unfold maxLen;omega) (by omega) (by omega) ?_;intro v' p d a _)
     have n:Hid (p.ownsRow (w.heap.size+1) 5 1 v' (64+(k+1)*32) (u8s (Ln f++(Ls f).take ((k+1)*32)))):=(by rw[Iv f k h,<-zR,pX,show 64+(k+1)*32=64+k*32+32 by omega];exact d);have s:Hid (p.heap[w.heap.size]?=some (.cells A 85)):=(a.block w (by omega) (λe=>by have:=(b w e.symm).1;omega)).trans g.o;have z:Below w w p:=Cd l a (by omega) (λr hr=>by have:=(b r hr).1;omega);clear d a b;go_wp2;go_roundw
     .exact⟨k+1,by omega,by go_num,n,s,z⟩
     .simp[intOf];omega
    .obtain rfl:k=4:=(by omega);have L:Hid (wr.ownsRow (w.heap.size+1) 5 1 u5 192 (u8s (uc f))):=(by have:=c.o;rw[zo (by rw[Yx];omega)]at this;exact this);clear c;go_wp2;go_ret2;exact⟨_,rfl,L.o,l⟩
theorem QZ (f) (a:fD f=0) (w):Calls prog 88 #[.agg (encF f)] w (N8 f w):=CQ f _ rfl a w
def f1 : Fo:=⟨λk j=>if k=0/\j=0 then 40 else 0,λ_=>emp⟩
def f2 : Fo:=⟨λk j=>if k=0/\j=0 then 40 else 0,λk=>if k=0 then ins (ins emp 40) 50 else emp⟩
section
variable {P : Program}
theorem mt (w) (dT sT ty elem) (k) (g o dLen dCap) (a) (sLen sCap) (cur) (t) (cs)
 (m:P.underlying dT=some (.slice elem)) (l:(P.info? elem).map (·.size)=some k)
 (n:w.heap[g]?=some (.cells cur t)) (p:cs.length=Nat.min sLen dLen*k)
 (f:∀j v,cs[j]?=some v->w.cell? (a.add j)=some v) (h:o+cs.length<=cur.size) (q:∀v∈cs,v.oneCell'=true):
 (Builtin.copy_ #[dT,sT] ty #[.slice (some ⟨g,o,none⟩) dLen dCap,.slice (some a) sLen sCap]).run P w =
  .ok (goInt (Nat.min sLen dLen)) (w.setRow g (cur.toList.take o++cs++cur.toList.drop (o+cs.length)).toArray):=by
 have d:=uV (P:=P) w a cs f;have b:=wS P g o t cs 0 cur w n (by simpa using h) q;cases c:P.info? elem with
 | none=>simp[c]at l
 | some i=>
  have e:i.size=k:=by simpa[c]using l
  rw[p]at d;simp only[va]at b;simp[Builtin.copy_,wP m,Builtin.lenOf,Builtin.firstCells,sizeOf,typeInfo,c,e,d,b]
end
theorem rowT: prog.underlying 87=some (.slice 193):=by kernel_rfl
theorem iP: (prog.info? 193).map (λi=>(i.zero,i.size,i.bytes))=some (some (.agg #[(),()]),2,16):=by kernel_rfl
theorem rowS: (prog.info? 193).map (·.size)=some 2:=by kernel_rfl
theorem N2 (l):∀v∈qP l,v.oneCell'=true:=by intro v a;unfold qP at a;rw[Np]at a;obtain⟨x,_,b⟩:=a;simp at b;rcases b with rfl|rfl<;>rfl
def jt (B:Nat) (l:List (Int×Int)) (w:World) (e:Ending) (w':World):Prop:=
 ∃v,e=.returned v/\w'.ownsRow B 193 2 v l.length (qP l)/\Below B w w'/\w.heap.size<=w'.heap.size
theorem iO (v) (l) (w) (h:uq w v 2 l.length (qP l)) (T:l.length<=1000000):
 Calls prog 131 #[v] w (jt w l w):=by
 obtain⟨N,H,m,p,q⟩:=yX iP;have P:=za H;have C:=za m;have D:=za p;have A:=za q;clear H m p q;obtain⟨n,e⟩:=zA l.length;obtain⟨a,c,O,B⟩:∃a c,v=.slice a n c/\Hid (∀d,a=some d->∀j u,(qP l)[j]?=some u->w.cell? (d.add j)=some u)/\(a=none->n=0):=by
  obtain⟨S,⟨I,a,c,rfl⟩|⟨g,o,c,rfl,Q⟩⟩:=h
  .refine⟨a,c,by rw[e.o,I],λd _ j u x=>?_,λ_=>by rw[e.o];exact I⟩;have:=(zG.1 x).1;omega
  .refine⟨_,c,by rw[e.o],λd J j u x=>?_,λh=>by cases h⟩;cases J;have s:(⟨g,o,none⟩:Addr).add j=⟨g,o+j,none⟩:=(by unfold Addr.add;split<;>simp_all);rw[s];exact Q j u x
 obtain⟨B,F⟩:=B;subst O;have i:(qP l).length=n*2:=by rw[rG,<-e.o]
 have t:=za i;rw[<-e.o]at T;clear i h;unfold jt;rw[<-e.o];have M:∀(w) (a) (n c y z),(binOp .eql 87 (.slice a n c) (.slice none y z)).run prog w=.ok (.bool a.isNone) w:=λw a n c y z=>Lib.run_eql_slice_nil w _ _ a n c y z rowT;cases a with
 | none=>
  have E:=za (F rfl);clear F;go_enter func131,ntmps131;go_wp2;go_ret;exact⟨_,rfl,⟨t.o,zu ⟨rfl,E.o⟩⟩,zB,zL⟩
 | some d=>
  clear F;go_enter func131,ntmps131;go_wp2_with (at_builtin;refine yw _ rfl _ _ 87 rfl w.heap.size 193 N (.agg #[(),()]) 2 16 rowT P.o C.o D.o A.o rfl (by decide) _ _ _ rfl (ub w #[] 0 zL zZ rfl) d n c (qP l) rfl ?qc1 ?qc2 ?qc3 ?qc4 ?qc5 ?qc6 ?_)
  case qc1=>exact t.o
  case qc2 =>intro j u x;have:=B.o d rfl j u x;rw[xR _ _ _ (zy this)];exact this
  case qc3=>exact N2 l
  case qc4=>unfold maxLen;omega
  case qc5=>omega
  case qc6=>simp
  intro K R f b r;have G:=((xW _ w).alloc zL _).grown b (by simp) (by intro k L;simp[Value.ownBlock]at L;omega);clear b r;go_wp2;go_ret;exact⟨K,rfl,f,G,G.size⟩
