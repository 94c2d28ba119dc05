import Derived.Test.YtmanoiagchpelaaGreatDoorKA2
import Derived.Test.YtmanoiagchpelaaGreatDoorProg
import Derived.WalkSpells
import Derived.WalkLawsBesides
import Derived.LoopTactic
import Derived.RegionTactic
import Derived.BigRegion
set_option maxHeartbeats 0
set_option linter.all false
set_option maxRecDepth 100000
namespace Go.Proofs.YtmanoiagchpelaaGreatDoor
open Go.Proofs.Tryz Go.RowKit
variable {l:List Int}
abbrev nQ:=@func157
abbrev nR:=@func132
abbrev oa:=@ntmps157
abbrev od:=@ntmps132
abbrev tW:=@results133
abbrev vy:=@underlying104
abbrev xj:=@ntmps150
abbrev xx:=@func150
def pk (a n:Int):Int:=wrap64 ((IntKind.u64.wrap a).tmod n)
theorem ru (a n) (e:0<n) (f:n<9223372036854775808):0<=pk a n/\pk a n<n:=by
 unfold pk;have b:0<=IntKind.u64.wrap a:=by simp[IntKind.wrap,IntKind.bits,IntKind.signed];omega
 have d:=Int.tmod_nonneg n b;have c:=oP (IntKind.u64.wrap a) e;have:wrap64 ((IntKind.u64.wrap a).tmod n)=(IntKind.u64.wrap a).tmod n:=by unfold wrap64;omega
 rw[this];exact⟨d,c⟩
theorem pB (a n) (w) (b:0<n) (c:n<9223372036854775808):
 Calls prog 20 #[.int .i64 a,.int .i64 n] w fun e w'=>e=.returned (.int .i64 (pk a n))/\w=w':=by
 go_enter func20,ntmps20
 go_wp2;go_ret;exact⟨rfl,rfl⟩
theorem tU {k:IntKind} {a b:Int} (h:a=b):Ending.returned (.int k a)=.returned (.int k b):=by rw[h]
theorem Zm (v) (l) (w) (h:vT w v l) (H:l.length<=1000000):
 Calls prog 185 #[v] w fun e w'=>e=.returned (.int .i64 (tY l))/\w=w':=by
 obtain⟨b,⟨y,F,G,rfl⟩|⟨g,C,A,rfl,z⟩⟩:=h
 .have j:Hid (tY l=0):=by have  :=yR.1 y;subst this;rfl
  clear b y;go_enter func185,ntmps185;go_wp2
  go_loop [10] (fun i=>i=.int .i64 0) (fun _=>0)
  case atStart=>rfl
  case round =>obtain rfl:=hrel;go_wp2;go_ret;exact⟨tU j.o.symm,rfl⟩
 .have B:=za z;clear z b;obtain⟨n,f⟩:=zA l.length;rw[<-f.o]at H ⊢;by_cases a:8<n
  .have j:Hid (tY l=2):=(by unfold tY Hid;rw[<-f.o,ze a]);go_enter func185,ntmps185;go_wp2;go_ret;exact⟨tU j.o.symm,rfl⟩
  .go_enter func185,ntmps185
   go_wp2
   go_loop [10] (fun i=>∃k:Nat,k<=n/\i=.int .i64 k/\Hid ((l.take k).any badP=false)) (fun i=>n-(intOf i).toNat)
   case atStart=>exact⟨0,ye _,rfl,rfl⟩
   case round=>
    obtain⟨k,E,rfl,x⟩:=hrel;by_cases m:k<n
    .have c:k<l.length:=(by rw[<-f.o];exact m);have d:=B.o k _ (mu l k c);obtain⟨p,r⟩:=zA (l[k]);rw[<-r.o]at d;have t:Hid (badP p=true->tY l=1):=fun q=>(by unfold tY;rw[<-f.o,zb a,ze];rw[wb];exact⟨l[k],zx c,by rw[<-r.o];exact q⟩);have D:Hid (badP p=false->(l.take (k+1)).any badP=false):=fun q=>(by rw[<-zR c,List.any_append,x.o,<-r.o];simp[q]);by_cases s:p<0
     .go_wp2;go_ret;exact⟨tU (t.o (by simp[badP,s])).symm,rfl⟩
     .by_cases u:256<=p
      .go_wp2;go_ret;exact⟨tU (t.o (by simp[badP,u])).symm,rfl⟩
      .go_wp2
       go_round
       case rel=>exact⟨k+1,by omega,by go_num,D.o (by simp[badP,s,u])⟩
       case measure=>simp[intOf];omega
    .have j:Hid (tY l=0):=(by unfold tY Hid;have:=x.o;rw[zv (by rw[<-f.o];omega)]at this;rw[<-f.o,zb a,zb (by simp[this])]);go_wp2;go_ret;exact⟨tU j.o.symm,rfl⟩
theorem Qf (a b p) (w) (g:0<=a) (h:a<=1000) (i:0<=b) (j:b<=1000):
 Calls prog 225 #[.agg #[.int .i64 a,.int .i64 b],.int .i64 p] w fun e w'=>e=.returned (.bool (lK (a,b) p))/\Below w w w':=by
 by_cases c:a=0
 .have f:(a==0)=true:=by simpa using c
  have d:Hid (lK (a,b) p=(p==0)):=by simp[lK,c,Hid]
  clear c;go_enter func225,ntmps225;go_wp2;go_ret;rw[d.o];exact⟨rfl,zB.alloc zL _⟩
 .have f:(a==0)=false:=by simpa using c
  have d:Hid (lK (a,b) p=(p==a+b)):=by simp[lK,c,Hid]
  clear c;go_enter func225,ntmps225;go_wp2;go_ret;rw[d.o];exact⟨rfl,zB.alloc zL _⟩
theorem Y6: (prog.info? 250).map (fun i=>(i.zero,i.size,i.bytes))=some (some (.agg #[(),()]),2,16):=by kernel_rfl
theorem iu: prog.underlying 246=some (.slice 250):=by kernel_rfl
theorem Wl {p q:Int}:∀u,u∈[Value.int .i64 p,Value.int .i64 q]->u.oneCell'=true:=by intro u a;simp at a;rcases a with rfl|rfl<;>rfl
def OfRes (l:List Int) (w:World) (e:Ending) (w':World):Prop:=
 ∃v,e=.returned (.tuple #[v,()])/\w'.ownsRow w 250 2 v (ofR l).length (wY (ofE l))/\Below w w w'
theorem TP (v) (l) (w) (h:vT w v l) (hr:tY l=0):
 Calls prog 186 #[v] w (OfRes l w):=by
 have am:l.length<=8:=by
  unfold tY at hr;split at hr
  .cases hr
  .omega
 have ad:∀p,p∈l->0<=p/\p<=255:=fun p hp=>by
  unfold tY at hr;split at hr
  .cases hr
  .split at hr
   .cases hr
   .rename_i X;have:badP p=false:=by
     cases hb:badP p with
     | false=>rfl
     | true=>exact zY (wb.2 ⟨p,hp,hb⟩) X
    simp[badP]at this;omega
 have HR:=za hr;have Y:=za ad;have H:=za h;clear hr ad h;obtain⟨i0,hi,T,ac,Z⟩:=xy Y6;have HI:=za hi;have ae:=za T;have af:=za ac;have V:=za Z;clear hi T ac Z;obtain⟨n,Q⟩:=zA l.length;rw[<-Q.o]at am;obtain⟨p0,F,hv,HC⟩:∃p F,v=.slice p n F/\Hid (∀(W:World),Below w w W->∀k (hk:k<l.length),∃g A,p=some ⟨g,A,none⟩/\W.cell? ⟨g,A+k,none⟩=some (.int .i64 l[k])):=by
  obtain⟨a2,⟨h0,a0,c0,hv⟩|⟨g,A,F,hv,hc⟩⟩:=H.o
  .exact⟨a0,c0,by rw[Q.o,h0];exact hv,fun W _ k hk=>by omega⟩
  .refine⟨_,F,by rw[Q.o];exact hv,fun W hb k hk=>⟨g,A,rfl,?_⟩⟩;have:=hc k _ (mu l k hk);exact (hb.cell (zG this)).trans this
 subst hv;go_enter func186,ntmps186;go_wp2_with fail
 refine (Zm _ l _ H.o (by rw[<-Q.o];omega)).mono ?_;rw[HR.o];rintro e w' ⟨rfl,rfl⟩;go_wp2;go_loopw [5,16] (fun o i wr=>∃k:Nat,k<=n/\i=.int .i64 k/\Hid (wr.ownsRow w 250 2 o (ofR (l.take k)).length (wY (ofE (l.take k))))/\Below w w wr) (fun _ i _=>n-(intOf i).toNat);case atStart=>exact⟨0,ye _,rfl,xd _ _ _ _,zB⟩
 case round=>
  obtain⟨k,hk,rfl,E,B⟩:=hrel;by_cases ao:k<n
  .have P:k<l.length:=(by rw[<-Q.o];exact ao);obtain⟨g,A,hp,J⟩:=HC.o wr B k P;subst hp;obtain⟨p,Hp⟩:=zA (l[k]);rw[<-Hp.o]at J;have av:0<=p/\p<=255:=(by rw[Hp.o];exact Y.o _ (zx P));obtain⟨aO,aL⟩:=av;have C:=li k (l.take k) (by rw[zj];omega) (fun q hq=>Y.o q (yY hq));have HS:Hid (ofR (l.take (k+1))=o8 (ofR (l.take k)) p):=(by rw[<-zR P,XJ,Hp.o];exact rfl);unfold ofE at E ⊢;generalize ofR (l.take k)=R at *
   obtain⟨C,D⟩:=C;have au:=za C;clear C;cases R with
   | nil=>
    obtain⟨c0,cp,M⟩:∃c0 cp,u5=.slice c0 0 cp:=by
     obtain⟨_,⟨rfl,_⟩|⟨t,c,y,rfl,_⟩⟩:=E.o
     .exact⟨_,_,rfl⟩
     .exact⟨_,_,rfl⟩
    subst M;have I:=(E.o.alloc (.cells #[p,(1:Int)] 250)).lt;go_wp2_with (first
     | (at_builtin;refine yI _ rfl _ _ 246 rfl w.heap.size 250 i0 (.agg #[(),()]) 2 16 iu HI.o ae.o af.o V.o rfl (by decide) _ _ _ rfl (E.o.alloc _) ⟨wr.heap.size,0,none⟩ 1 1 [.int .i64 p,.int .i64 1] rfl rfl (fun j u M=>Z2 _ #[p,(1:Int)] _ j u M) Wl (by simp only[xS]at D ⊢;unfold maxLen;omega) (by simp only[xS]at D ⊢;omega) (by have:=B.size;  simp;omega) ?_;intro v' w4 m d _))
    have K:Hid (w4.ownsRow w 250 2 v' (ofR (l.take (k+1))).length (wY (ofE (l.take (k+1))))):=(by unfold ofE;rw[HS.o,Ps];have:w4.ownsRow w 250 2 v' 1 (wY [(p,1)]):=(by simpa[wY]using m);exact this);have N:=xB (B.alloc B.size _) d (by have:=B.size;simp;omega) (fun q hq=>(I q hq).1);clear m d I;go_wp2;go_roundw;case rel=>exact⟨k+1,by omega,by go_num,K,N⟩
    case measure=>simp[intOf];omega
   | cons x r=>
    obtain⟨a,b⟩:=x;have aw:=au.o (a,b) (by simp);obtain⟨az,aE,aI,aP⟩:=aw;obtain⟨t,c,y,M,U,hh,a1⟩:∃t c y,u5=.slice (some ⟨t,0,none⟩) (r.length+1) c/\w.heap.size<=t/\Hid (wr.heap[t]?=some (.cells y 250))/\r.length+1<=c:=by
     obtain⟨_,⟨rfl,h0⟩|⟨t,c,y,rfl,h1,h2,h3,_⟩⟩:=E.o
     .simp at h0
     .exact⟨t,c,y,rfl,h1,h2,h3⟩
    subst M;have s:Hid (wr.ownsRow w 250 2 (t,0,(r.length+1),c) (r.length+1) (wY (r.reverse++[(a,b)]))):=(by have:=E.o;rw[uA]at this;exact this);clear E;have aD:r.length+1<=k:=D;clear D;have L:=NR r.reverse (a,b);have aF:wr.cell? (t,r.length*2)=some (.int .i64 a):=(by rw[World.ownsRow.cellAt s.o _ (by omega)];simpa using L.1);have O:wr.cell? (t,r.length*2+1)=some (.int .i64 b):=(by rw[World.ownsRow.cellAt s.o _ (by omega)];simpa using L.2);clear L;have ar:wr.frozen? (t,r.length*2+1)=false:=zF hh.out;have HG:Hid (∀W,Calls prog 225 #[.agg #[a,b],p] W fun e w'=>e=.returned (.bool (lK (a,b) p))/\Below W W w'):=fun W=>Qf a b p W az (by omega) (by omega) (by omega);cases G:lK (a,b) p
    .have z:=za G;clear G;go_wp2_with (first
      | (go_at_call 225;refine (HG.o _).mono ?_;rw[z.o];rintro e w3 ⟨rfl,f⟩)
      | (at_builtin;refine yI _ rfl _ _ 246 rfl w.heap.size 250 i0 (.agg #[(),()]) 2 16 iu HI.o ae.o af.o V.o rfl (by decide) _ _ _ rfl ((tB s.o f).alloc _) ⟨w3.heap.size,0,none⟩ 1 1 [.int .i64 p,.int .i64 1] rfl rfl (fun j u M=>Z2 _ #[p,(1:Int)] _ j u M) Wl (by unfold maxLen;omega) (by omega) (by have:=B.size;have:=f.size;simp;omega) ?_;intro v' w4 m d _))
     have K:Hid (w4.ownsRow w 250 2 v' (ofR (l.take (k+1))).length (wY (ofE (l.take (k+1))))):=(by unfold ofE;rw[HS.o,Rh z.o,uA,uA,oZ (r.reverse++[(a,b)])];exact m);have N:=xB ((zf B f).alloc (by have:=B.size;have:=f.size;omega) _) d (by have:=B.size;have:=f.size;simp;omega) (fun q hq=>by cases hq;exact U);clear m d;go_wp2;go_roundw;case rel=>exact⟨k+1,by omega,by go_num,K,N⟩
     case measure=>simp[intOf];omega
    .have z:=za G;clear G;go_wp2_with (first
      | (go_at_call 225;refine (HG.o _).mono ?_;rw[z.o];rintro e w3 ⟨rfl,f⟩;have aC:=(f.cell (zG O)).trans O;have aA:=(f.frozen (zG O)).trans ar))
     go_roundw;case rel=>
      refine⟨k+1,by omega,by go_num,?_,(zf B f).setCell U _⟩;have h1:=(tB s.o f).stored (r.length*2+1) (.int .i64 (b+1));have h2:=Gv r.reverse a b (b+1);rw[uh]at h2;rw[h2]at h1;rw[HS.o,Pr z.o,uA];exact h1.1
     case measure=>simp[intOf];omega
  .have S:k=n:=(by omega);have HF:Hid (l.take k=l):=(by rw[S,Q.o];exact xJ);have s:Hid (wr.ownsRow w 250 2 u5 (ofR l).length (wY (ofE l))):=(by have:=E.o;rw[HF.o]at this;exact this);clear S E HF;go_wp2;go_ret2;exact⟨_,rfl,s.o,B⟩
def lM (l:List (Int×Int)):List Int:=l.flatMap fun x=>[x.1,x.2]
theorem KT (l):(lM l).length=l.length*2:=by
 induction l with
 | nil=>rfl
 | cons x l a=>simp only[lM,xo,zm,yx,xS]at *;omega
theorem L6 (a b):lM (a++b)=lM a++lM b:=by simp[lM]
def sB (l:List (Int×Int)):List Int:=lM l++List.replicate (16-l.length*2) 0
def byts (l:List Int):Array Value:=(l.map fun n=>Value.int .u8 n).toArray
theorem RA (l) (x) (h:l.length<8):((byts (sB l)).setIfInBounds (l.length*2) (.int .u8 x.1)).setIfInBounds (l.length*2+1) (.int .u8 x.2)=byts (sB (l++[x])):=by have a:=KT l;unfold byts sB;rw[L6,zm,show 16-l.length*2=(14-l.length*2)+1+1 by omega,ug,ug,show 16-(l.length+[x].length)*2=14-l.length*2 by simp;omega];simp only[zK,yy,yF];rw[vS _ _ (by simp;omega)];rw[show l.length*2-(List.map (fun n=>Value.int IntKind.u8 n) (lM l)).length=0 by simp;omega];rw[vS _ _ (by simp;omega)];rw[show l.length*2+1-(List.map (fun n=>Value.int IntKind.u8 n) (lM l)).length=1 by simp;omega];simp[lM]
theorem PR (l) (h:l.length<=8):(byts (sB l)).size=16:=by have:=KT l;simp[byts,sB];omega
theorem make16 (W):(Instr.makeSlice 56 (.int .i64 16) (.int .i64 16)).run prog W=.ok (.slice (some ⟨W.heap.size,0,none⟩) 16 16) (W.alloc (.cells (byts (sB [])) 5)):=by kernel_rfl
theorem VH (a:tY l=0):l.length<=8:=by
 unfold tY at a;split at a
 .cases a
 .omega
theorem gX (d:tY l=0):∀p,p∈l->0<=p/\p<=255:=fun p b=>by
 unfold tY at d;split at d
 .cases d
 .split at d
  .cases d
  .rename_i a;have:badP p=false:=by
    cases c:badP p with
    | false=>rfl
    | true=>exact zY (wb.2 ⟨p,b,c⟩) a
   simp[badP]at this;omega
def SH (l:List Int) (w:World) (e:Ending) (w':World):Prop:=
 ∃g,e=.returned (.tuple #[.slice (some ⟨g,0,none⟩) 16 16,()])/\w.heap.size<=g/\w'.heap[g]?=some (.cells (byts (sB (ofE l))) 5)/\Below w w w'
theorem KG (v) (l) (w) (h:vT w v l) (hr:tY l=0):
 Calls prog 151 #[v] w (SH l w):=by
 have H:=za h;have HR:=za hr;clear h hr;obtain⟨Z0,D⟩:=zA (byts (sB []));have aq:∀W,(Instr.makeSlice 56 (.int .i64 16) (.int .i64 16)).run prog W=.ok (.slice (some ⟨W.heap.size,0,none⟩) 16 16) (W.alloc (.cells Z0 5)):=fun W=>by rw[D.o];exact make16 W
 go_enter func151,ntmps151
 go_wp2_with fail
 refine (TP _ l _ H.o HR.o).mono ?_;rintro e c ⟨o,rfl,n,d⟩;have I:=gX HR.o;have L:=VH HR.o;have C:=li l.length l rfl I;obtain⟨q,ay,hv,hq⟩:=tV n;have M:=za hq;subst hv;have hN:(ofR l).length=(ofE l).length:=by simp[ofE]
 have V:Hid (∀x,x∈ofE l->0<=x.1/\x.1<=255/\1<=x.2/\x.2<=8):=fun x r=>by have:=C.1 x (by simpa[ofE]using r);omega
 obtain⟨N,F⟩:=zA ((ofE l).length);have au:N<=8:=by rw[F.o,<-hN];omega
 rw[hN,<-F.o]at M ⊢;clear I L C n hq hN;have E:=d;have U:Below w w (c.alloc (.cells Z0 5)):=d.alloc d.size _;go_wp2_with fail
 go_loopw [20] (fun i wr=>∃k:Nat,k<=N/\i=.int .i64 k/\Below w w wr/\Hid (wr.heap[c.heap.size]?=some (.cells (byts (sB ((ofE l).take k))) 5))
  /\Hid (∀g,q=some ⟨g,0,none⟩->∀(j:Nat) (x:Value),(wY (ofE l))[j]?=some x->wr.cell? ⟨g,j,none⟩=some x)) (fun i _=>N-(intOf i).toNat)
 case atStart=>
  refine⟨0,ye _,rfl,U,?_,fun g hg j x r=>?_⟩
  .rw[xH,<-D.o];exact zH
  .have h0:0<N:=by
    rw[F.o];rcases vn (ofE l).length with h|h
    .rw[yR.1 h]at r;simp[wY]at r
    .exact h
   obtain⟨J,m,_,hc⟩:=M.o h0;rw[hg]at m;cases m;have:=hc j x r;exact (wN _ _ _ (zG this)).trans this
 case round=>
  obtain⟨k,hk,rfl,Z,s,Q⟩:=hrel;by_cases S:k<N
  .have t:k<(ofE l).length:=(by rw[<-F.o];exact S);obtain⟨g,X,hg,B⟩:=M.o (by omega);subst X;have G:=Wz (ofE l) k t;obtain⟨a,b,u⟩:∃a b,(ofE l)[k]=(a,b):=⟨_,_,rfl⟩;have hr:=V.o _ (zx t);rw[u]at G hr;have ao:g<c.heap.size:=zG (B _ _ G.1);clear B;have ca:=Q.o g rfl _ _ G.1;have cb:=Q.o g rfl _ _ G.2;obtain⟨ad,K,T,d⟩:=hr;simp only at ad K T d ca cb;have A:=za u;clear u G;have P:=PR ((ofE l).take k) (by rw[zj];omega);have am:=xR s.o;have p:∀j,j<16->∃x,wr.cell? ⟨c.heap.size,j,none⟩=some x:=fun j hj=>(by rw[zC s.o];exact⟨_,xL (by rw[P];exact hj)⟩);obtain⟨x0,R⟩:=p (2*k) (by omega);obtain⟨x1,ab⟩:=p (2*k+1) (by omega);have f0:wr.frozen? (c.heap.size,2*k)=false:=zF s.o;have f1:wr.frozen? (c.heap.size,2*k+1)=false:=zF s.o;clear p;have HZ:=za P;clear P;go_wp2
   go_region
   all_goals
    have f:=E.size;have Y:Below w w (((wr.setCell {block:=c.heap.size,off:=2*k} (Value.int IntKind.u8 a)).setCell {block:=c.heap.size,off:=2*k+1} (Value.int IntKind.u8 b)).alloc (Obj.cells #[Value.int IntKind.i64 a,Value.int IntKind.i64 b] 250)).drew:=
     (((Z.setCell f _).setCell f _).alloc ((Z.setCell f _).setCell f _).size _).drew
    have O:Hid ((((wr.setCell {block:=c.heap.size,off:=2*k} (Value.int IntKind.u8 a)).setCell {block:=c.heap.size,off:=2*k+1} (Value.int IntKind.u8 b)).alloc (Obj.cells #[Value.int IntKind.i64 a,Value.int IntKind.i64 b] 250)).drew.heap[c.heap.size]?=some (.cells (byts (sB ((ofE l).take (k+1)))) 5)):=(by have h1:=tA (yb _ _ (2*k+1) _ _ (.int .u8 b) (yb _ _ (2*k) _ _ (.int .u8 a) s.o)) (Obj.cells #[Value.int IntKind.i64 a,Value.int IntKind.i64 b] 250);have y:=RA ((ofE l).take k) (a,b) (by rw[zj];omega);rw[zj,show min k (ofE l).length=k by omega,show k*2=2*k by omega,<-A.o,zR t]at y;simp only[A.o]at y;rw[<-y];exact h1);have H5:Hid (∀J,some (⟨g,0,none⟩:Addr)=some ⟨J,0,none⟩->∀(j) (x),(wY (ofE l))[j]?=some x->(((wr.setCell {block:=c.heap.size,off:=2*k} (Value.int IntKind.u8 a)).setCell {block:=c.heap.size,off:=2*k+1} (Value.int IntKind.u8 b)).alloc (Obj.cells #[Value.int IntKind.i64 a,Value.int IntKind.i64 b] 250)).drew.cell? ⟨J,j,none⟩=some x):=fun J m j x r=>(by cases m;have h1:=Q.o g rfl j x r;have y:((wr.setCell {block:=c.heap.size,off:=2*k} (Value.int IntKind.u8 a)).setCell {block:=c.heap.size,off:=2*k+1} (Value.int IntKind.u8 b)).cell? ⟨g,j,none⟩=some x:=(by rw[uP _ _ _ _ (by intro e;cases e;omega),uP _ _ _ _ (by intro e;cases e;omega)];exact h1);exact (wN _ _ _ (zG y)).trans y);clear ca cb R ab f0 f1;go_wp2;go_roundw;case rel=>exact⟨k+1,by omega,by go_num,Y,O,H5⟩
    case measure=>simp[intOf];omega
  .have z:k=N:=(by omega);have HF:Hid ((ofE l).take k=ofE l):=(by rw[z,F.o];exact xJ);have O:Hid (wr.heap[c.heap.size]?=some (.cells (byts (sB (ofE l))) 5)):=(by have:=s.o;rw[HF.o]at this;exact this);clear z s HF;go_wp2;go_ret2;exact⟨_,rfl,E.size,O.o,Z⟩
theorem setT: prog.underlying 102=some (.array 32 5):=by kernel_rfl
theorem setI: (prog.info? 102).map (·.size)=some 32:=by kernel_rfl
theorem Below.setRow {B:Nat} {a w:World} (h:Below B a w) {g:Nat} (c:B<=g) (cs):Below B a (w.setRow g cs):=
 ⟨h.os,h.tape,h.output,by have:=h.size;simp only[World.setRow,nW];exact this,fun k b=>by rw[xh _ _ _ _ (by omega)];exact h.block k b⟩
abbrev xI:=@Below.setRow
theorem SM (A B) (n:Nat) (w) (d:n<256) (x) (f:A[n / 8]?=some (.int .u8 x))
 (b:Hid (A.setIfInBounds (n / 8) (Value.int IntKind.u8 (bits BinOp.or IntKind.u8 x (2 ^ (n%8)%256)))=B)) (a:Hid (B.size=32)) (c:Hid (B.all (·.oneCell')=true)):
 Calls prog 106 #[.agg A,n] w fun e w'=>e=.returned (.agg B)/\Below w w w':=by
 go_enter func106,ntmps106
 go_wp2
 go_region
 all_goals
  rw[b.o];go_wp2_with (first
   | (refine yS rfl 102 (.tmp 2) rfl w rfl 102 B (0,0) _ (vH w _ _) setT rfl (by rw[a.o];exact setI) ?_)
   | (refine yG rfl 102 (.tmp 4) (.tmp 20) rfl (w.heap.size+1) B rfl rfl 102 _ (vm w _ _) (by rw[a.o];exact setI) (by rw[a.o];rfl) c ?_))
  refine yV (ry rfl _ _ (w.heap.size+1) 102 B (0,0) _ rfl (yh _ _ _ _ _ _ (vm w _ _)) setT rfl (by rw[a.o];exact setI)) rfl ⟨rfl,?_⟩;exact xI ((zB.alloc zL _).alloc (by simp) _).drew (by omega) _
theorem iQ (s) (n) (w) (a:0<=n) (b:n<256):
 Calls prog 106 #[.agg (enc s),.int .i64 n] w fun e w'=>e=.returned (.agg (enc (ins s n.toNat)))/\Below w w w':=by
 obtain⟨k,rfl⟩:=wv a;exact SM (enc s) _ k w (by omega) _ (pY s (k / 8) (by omega)) (Sx s k (by omega)) (tP _) (lW _)
theorem MO (A B) (n:Nat) (w) (d:n<256) (x) (f:A[n / 8]?=some (.int .u8 x))
 (b:Hid (A.setIfInBounds (n / 8) (Value.int IntKind.u8 (bits BinOp.andNot IntKind.u8 x (2 ^ (n%8)%256)))=B)) (a:Hid (B.size=32)) (c:Hid (B.all (·.oneCell')=true)):
 Calls prog 119 #[.agg A,n] w fun e w'=>e=.returned (.agg B)/\Below w w w':=by
 go_enter func119,ntmps119
 go_wp2
 go_region
 all_goals
  rw[b.o];go_wp2_with (first
   | (refine yS rfl 102 (.tmp 2) rfl w rfl 102 B (0,0) _ (vH w _ _) setT rfl (by rw[a.o];exact setI) ?_)
   | (refine yG rfl 102 (.tmp 4) (.tmp 20) rfl (w.heap.size+1) B rfl rfl 102 _ (vm w _ _) (by rw[a.o];exact setI) (by rw[a.o];rfl) c ?_))
  refine yV (ry rfl _ _ (w.heap.size+1) 102 B (0,0) _ rfl (yh _ _ _ _ _ _ (vm w _ _)) setT rfl (by rw[a.o];exact setI)) rfl ⟨rfl,?_⟩;exact xI ((zB.alloc zL _).alloc (by simp) _).drew (by omega) _
theorem JD (s) (n) (w) (a:0<=n) (b:n<256):
 Calls prog 119 #[.agg (enc s),.int .i64 n] w fun e w'=>e=.returned (.agg (enc (del s n.toNat)))/\Below w w w':=by
 obtain⟨k,rfl⟩:=wv a;exact MO (enc s) _ k w (by omega) _ (pY s (k / 8) (by omega)) (Sz s k (by omega)) (tP _) (lW _)
theorem Sh (A) (n:Nat) (w) (a:n<256) (x) (b:A[n / 8]?=some (.int .u8 x)):
 Calls prog 188 #[.agg A,n] w fun e w'=>e=.returned (.bool (bits BinOp.and IntKind.u8 (x / 2 ^ (n%8)) 1==1))/\Below w w w':=by
 go_enter func188,ntmps188
 go_wp2;go_ret;exact⟨rfl,zB.alloc zL _⟩
theorem iL (s) (n) (w) (d:0<=n) (f:n<256):
 Calls prog 188 #[.agg (enc s),.int .i64 n] w fun e w'=>e=.returned (.bool (s n.toNat))/\Below w w w':=by
 obtain⟨k,rfl⟩:=wv d;refine (Sh (enc s) k w (by omega) _ (pY s (k / 8) (by omega))).mono fun e w' ⟨b,c⟩=>⟨?_,c⟩;rw[b];unfold tN;rw[Na _ _ (by omega)];have a:8*(k / 8)+k%8=k:=by omega
 rw[a];simp only[yz];cases s k<;>rfl
theorem byteT: prog.underlying 5=some (.int .u8):=by kernel_rfl
theorem byteI: (prog.info? 5).map (·.size)=some 1:=by kernel_rfl
theorem jV (w:World) (o) (i) (h:i=w.heap.size):(w.alloc o).heap[i]?=some o:=by rw[h];exact zT w o
theorem R9 (s t) (A T R) (y:Hid (A=enc s)) (z:Hid (T=enc t)) (x:Hid (enc (join s t)=R)) (w):
 Calls prog 232 #[.agg A,.agg T] w fun e w'=>e=.returned (.agg R)/\Below w w w':=by
 go_enter func232,ntmps232
 go_wp2;go_loopw [6] (fun i wr=>∃k:Nat,k<=32/\i=.int .i64 k/\Below w w wr/\Hid (wr.heap[w.heap.size]?=some (.cells (enc (my s (join s t) k)) 102))/\Hid (wr.heap[w.heap.size+1]?=some (.cells (enc t) 102))
  /\Hid (∃Z,wr.heap[w.heap.size+2]?=some (.cells Z 102)/\Z.size=32)) (fun i _=>32-(intOf i).toNat)
 case atStart=>
  refine⟨0,by omega,rfl,((zB.alloc zL _).alloc (by simp) _).alloc (by simp;omega) _,?_,?_,⟨_,jV _ _ _ (by simp),rfl⟩⟩
  .rw[QF,<-y.o];exact (wX _ _ _ (by simp;omega)).trans ((wX _ _ _ (by simp)).trans (zH))
  .rw[<-z.o];exact (wX _ _ _ (by simp)).trans (jV _ _ _ (by simp))
 case round=>
  obtain⟨k,r,rfl,h,b,j,g⟩:=hrel;by_cases a:k<32
  .have v:wr.cell? (w.heap.size,k)=some (.int .u8 (tN s k)):=(by rw[wM _ _ k _ _ _ b.o,pY _ _ a,MK]);have u:wr.cell? (w.heap.size+1,k)=some (.int .u8 (tN t k)):=(by rw[wM _ _ k _ _ _ j.o,pY _ _ a]);have q:=frozen_of_row _ _ k _ _ b.o;go_wp2
   go_region
   all_goals
    go_wp2;go_roundw;case rel=>
     refine⟨k+1,by omega,by go_num,(h.setCell zL _).drew,?_,(oD _ _ _ _ (by simp)).trans j.o,?_⟩
     .rw[LA];exact (yb _ _ _ _ _ _ b.o).trans (by rw[Sw s (join s t) k a])
     .obtain⟨Z,d,c⟩:=g.o;exact⟨Z,(oD _ _ _ _ (by simp)).trans d,c⟩
    case measure=>simp[intOf];omega
  .obtain rfl:k=32:=(by omega);obtain⟨Z,d,c⟩:=g.o;have l:=za d;have p:=za c;have m:Hid (wr.heap[w.heap.size]?=some (.cells R 102)):=(by have:=b.o;rw[O3,x.o]at this;exact this);have f:Hid (R.size=32):=(by rw[<-x.o];exact tP _);have n:Hid (R.all (·.oneCell')=true):=(by rw[<-x.o];exact lW _);clear d c b g;go_wp2_with (first
    | (refine yS rfl 102 (.tmp 2) rfl w rfl 102 R (0,0) _ m.out setT rfl (by rw[f.o];exact setI) ?_)
    | (refine yG rfl 102 (.tmp 4) (.tmp 18) rfl (w.heap.size+2) R rfl rfl 102 Z l.out (by rw[f.o];exact setI) (by rw[f.o,p.out]) n.o ?_))
   refine yV (ry rfl _ _ (w.heap.size+2) 102 R (0,0) _ rfl (yh _ _ _ _ _ _ l.out) setT rfl (by rw[f.o];exact setI)) rfl ⟨rfl,?_⟩;exact xI h (by omega) _
theorem Qa (s t) (w):
 Calls prog 232 #[.agg (enc s),.agg (enc t)] w fun e w'=>e=.returned (.agg (enc (join s t)))/\Below w w w':=R9 s t _ _ _ rfl rfl rfl w
def Q9 (s:Nat->Bool) (lo hi:Nat) (e:Ending):Prop:=
 (∃n,lo<=n/\n<hi/\s n=false/\(∀m,lo<=m->m<n->s m=true)/\e=.returned (.tuple #[.int .i64 n,()])) \/
 ((∀m,lo<=m->m<hi->s m=true)/\e=.returned (.tuple #[(),(6:Int)]))
def Upto (s:Nat->Bool) (lo k:Nat):Prop:=∀m,lo<=m->m<k->m<256->s m=true
theorem W5 (
 s) (A) (HA:Hid (A=enc s)) (lo be:Nat) (w) (h0:lo<=1000) (h1:be<=1000):
 Calls prog 202 #[.agg A,lo,be] w fun e w'=>Q9 s lo (min be 256) e/\Below w w w':=by
 have X:Hid (A.size=32):=by rw[HA.o];exact tP s
 rcases vn lo with t|t<;>by_cases N:be<=256;all_goals
  obtain⟨d,f,U,p⟩:∃d:Nat,Hid (min be 256=d)/\d<=256/\(d<=be/\(be<=d\/256<=d)):=⟨_,rfl,by omega,by omega,by omega⟩;obtain⟨p,R⟩:=p
  first|(have y:¬(256<(be:Int)):=by omega)|(have y:256<(be:Int):=by omega)
  have V:=za t
  first|(have T:¬0<lo:=by omega)|(have T:0<lo:=t)
  clear t;go_enter func202,ntmps202;go_wp2;go_loopw [8] (fun i wr=>∃k:Nat,lo<=k/\k<=1010/\i=.int .i64 k/\Below w w wr/\Hid (wr.heap[w.heap.size]?=some (.cells A 102))/\Hid (Upto s lo k)) (fun i _=>1020-(intOf i).toNat);case atStart =>refine⟨lo,by omega,by omega,by first|rfl|(rw[V.o];rfl),zB.alloc zL _,zH,fun m v L=>by omega⟩
  case round=>
   obtain⟨k,Q,M,rfl,j,l,u⟩:=hrel;by_cases z:k<d
   .have Z:wr.cell? (w.heap.size,k / 8)=some (.int .u8 (tN s (k / 8))):=(by rw[zC l.o,HA.o,pY _ _ (by omega)]);have K:=Vi s (k / 8);have E:k<be:=(by omega);have J:k<256:=(by omega);by_cases v:(k:Int)%8=0/\tN s (k / 8)=255
    .obtain⟨q,r⟩:=v;have H:((k:Int)%8==0)=true:=(by simpa using q);have F:((tN s (k / 8):Int)==255)=true:=(by rw[vx];omega);have P:Hid (Upto s lo (k+8)):=fun m h1 c D=>by
      by_cases B:m<k
      .exact u.o m h1 B D
      .have:=LB r (m-k) (by omega)
       rwa [show 8*(k / 8)+(m-k)=m by omega]at this
     clear q r;go_wp2;go_roundw;case rel=>exact⟨k+8,by omega,by omega,by go_num,j,l,P⟩
     case measure=>simp[intOf];omega
    .have C:((k:Int)%8==0)=false\/(((k:Int)%8==0)=true/\((tN s (k / 8):Int)==255)=false):=by
      by_cases h1:(k:Int)%8=0
      .right;refine⟨by simpa using h1,?_⟩;rw[xr];intro c;exact v ⟨h1,by omega⟩
      .left;simpa using h1
     clear v;have G:∀W,Calls prog 188 #[.agg A,k] W fun e w'=>e=.returned (.bool (s k))/\Below W W w':=fun W=>(by rw[HA.o];exact iL s k W (by omega) (by omega));have Y:=za G;clear G;rcases C with O|⟨O,S⟩<;>cases I:s k;all_goals
      have h:=za I;clear I;go_wp2_with (first
       | (refine yS rfl 102 (.tmp 3) rfl w rfl 102 A (0,0) _ l.o setT rfl (by rw[X.o];exact setI) ?_)
       | (go_at_call 188;refine (Y.o _).mono ?_;rw[h.o];rintro e w' ⟨rfl,g⟩))
      first
       | (
        go_ret2;refine⟨zr ⟨k,by omega,?_,h.o,fun m h1 c=>u.o m (by omega) c (by omega),rfl⟩,j.trans (g.mono j.size)⟩;rw[f.o];exact z)
       | (
        go_roundw;case rel=>
         refine⟨k+1,by omega,by omega,by go_num,j.trans (g.mono j.size),(g.block _ (wW.1 l.o).1).trans l.o,fun m h1 c D=>?_⟩;by_cases B:m=k
         .rw[B];exact h.o
         .exact u.o m h1 (by omega) D
        case measure=>simp[intOf];omega)
   .have x:¬(k<be/\k<256):=(by omega);have b:256<be->¬k<256:=(by omega);have a:be<=256->¬k<be:=by omega
    first
     | (have n:=a N)
     | (have n:=b (by omega))
    clear x b a;go_wp2;go_ret2;refine⟨zu ⟨fun m h1 c=>u.o m (by omega) ?_ ?_,rfl⟩,j⟩
    .rw[f.o]at c;omega
    .rw[f.o]at c;omega
theorem Mw (s) (o p:Int) (n:Nat) (w) (r:0<=o) (v:o<=1000) (t:0<=p) (x:p<=1000) (y:o<=n) (z:n<p) (A:n<256) (q:s n=false) (u:∀m:Nat,o<=m->m<n->s m=true):
 Calls prog 202 #[.agg (enc s),o,p] w fun e w'=>e=.returned (.tuple #[n,()])/\Below w w w':=by
 obtain⟨a,rfl⟩:=wv r;obtain⟨b,rfl⟩:=wv t;refine (W5 s _ rfl a b w (by omega) (by omega)).mono fun e w' ⟨g,i⟩=>⟨?_,i⟩;rcases g with⟨k,l,j,d,f,rfl⟩|⟨c,_⟩
 .obtain rfl:k=n:=by
   rcases Nat.lt_trichotomy k n with h|h|h
   .have:=u k (by omega) h;rw[d]at this;cases this
   .exact h
   .have:=f n (by omega) h;rw[q]at this;cases this
  rfl
 .have:=c n (by omega) (by omega);rw[q]at this;cases this
theorem Mx (s) (j l:Int) (w) (n:0<=j) (q:j<=1000) (o:0<=l) (r:l<=1000) (p:∀m:Nat,j<=m->m<l->m<256->s m=true):
 Calls prog 202 #[.agg (enc s),j,l] w fun e w'=>e=.returned (.tuple #[(),(6:Int)])/\Below w w w':=by
 obtain⟨a,rfl⟩:=wv n;obtain⟨b,rfl⟩:=wv o;refine (W5 s _ rfl a b w (by omega) (by omega)).mono fun e w' ⟨d,f⟩=>⟨?_,f⟩;rcases d with⟨k,i,g,c,h,rfl⟩|⟨_,rfl⟩
 .have:=p k (by omega) (by omega) (by omega);rw[c]at this;cases this
 .rfl
def emp : Nat->Bool:=fun _=>false
theorem Sy: #[Value.int IntKind.u8 0,Value.int IntKind.u8 0,Value.int IntKind.u8 0,Value.int IntKind.u8 0,Value.int IntKind.u8 0,Value.int IntKind.u8 0,Value.int IntKind.u8 0,Value.int IntKind.u8 0,Value.int IntKind.u8 0,Value.int IntKind.u8 0,Value.int IntKind.u8 0,Value.int IntKind.u8 0,Value.int IntKind.u8 0,Value.int IntKind.u8 0,Value.int IntKind.u8 0,Value.int IntKind.u8 0,Value.int IntKind.u8 0,Value.int IntKind.u8 0,Value.int IntKind.u8 0,Value.int IntKind.u8 0,Value.int IntKind.u8 0,Value.int IntKind.u8 0,Value.int IntKind.u8 0,Value.int IntKind.u8 0,Value.int IntKind.u8 0,Value.int IntKind.u8 0,Value.int IntKind.u8 0,Value.int IntKind.u8 0,Value.int IntKind.u8 0,Value.int IntKind.u8 0,Value.int IntKind.u8 0,Value.int IntKind.u8 0]=enc emp:=by kernel_rfl
theorem setZ: ∀w,(zeroValue 102).run prog w=.ok (.agg (enc emp)) w:=(te (P:=prog) (t:=102) (v:=.agg (enc emp)) (n:=32) (by rw[<-Sy];kernel_rfl)).1
structure Fo where
 nd:Nat->Nat->Int
 hs:Nat->Nat->Bool
def uU (f:Fo) (k j:Nat):Value:=if j<16 then .int .i64 (f.nd k j) else .int .u8 (tN (f.hs k) (j-16))
def encF (f:Fo):Array Value:=Array.ofFn (n:=192) fun i=>uU f (i.val / 48) (i.val%48)
def encT (f:Fo) (k:Nat):Array Value:=Array.ofFn (n:=48) fun j=>uU f k j.val
def encN (f:Fo) (k:Nat):Array Value:=Array.ofFn (n:=16) fun j=>uU f k j.val
theorem uj (f):(encF f).size=192:=by simp[encF]
theorem oY (f) (k):(encT f k).size=48:=by simp[encT]
theorem Uz (f) (k):(encN f k).size=16:=by simp[encN]
theorem rk (f) (k j) (a:k<4) (b:j<48):(encF f)[k*48+j]?=some (uU f k j):=by
 have h:k*48+j<192:=by omega
 simp only[encF,pF,dif_pos h];rw[show (k*48+j) / 48=k by omega,show (k*48+j)%48=j by omega]
theorem Zj (f) (k j) (a:j<48):(encT f k)[j]?=some (uU f k j):=by simp only[encT,pF,dif_pos a]
theorem Uj (f) (k j) (a:j<16):(encN f k)[j]?=some (uU f k j):=by simp only[encN,pF,dif_pos a]
theorem Ve (f) (k j):(uU f k j).oneCell'=true:=by unfold uU;split<;>rfl
theorem nx (f):(encF f).all (·.oneCell')=true:=by rw[we];intro x a;obtain⟨i,b,rfl⟩:=Array.mem_iff_getElem.1 a;simp only[encF,Array.getElem_ofFn];exact Ve _ _ _
theorem Uh (f) (k):(encT f k).all (·.oneCell')=true:=by rw[we];intro x a;obtain⟨i,b,rfl⟩:=Array.mem_iff_getElem.1 a;simp only[encT,Array.getElem_ofFn];exact Ve _ _ _
theorem Vx (f) (k) (b:k<4):∀j,j<(enc (f.hs k)).size->(encF f)[k*48+16+j]?=(enc (f.hs k))[j]? :=fun j a=>by rw[tP]at a;rw[yC,rk f k (16+j) b (by omega),pY _ _ a];unfold uU;rw[zb (by omega),show 16+j-16=j by omega]
theorem Uq (f) (k) (b:k<4):∀j,j<(encT f k).size->(encF f)[k*48+j]?=(encT f k)[j]? :=fun j a=>by rw[oY]at a;rw[rk f k j b a,Zj f k j a]
theorem K3 (f) (k) (b:k<4):∀j,j<(encN f k).size->(encF f)[k*48+j]?=(encN f k)[j]? :=fun j a=>by rw[Uz]at a;rw[rk f k j b (by omega),Uj f k j a]
def vO (f:Fo) (k:Nat):Bool:= !(f.nd k 0==0)
theorem forT: prog.underlying 106=some (.array 4 104):=by kernel_rfl
theorem forI: (prog.info? 106).map (·.size)=some 192:=by kernel_rfl
theorem qT: (prog.info? 104).map (·.size)=some 48:=by kernel_rfl
theorem lj: (prog.info? 100).map (·.size)=some 16:=by kernel_rfl
theorem Pk (A) (k:Nat) (x) (w) (h:k<4) (i:A[k*48]?=some (.int .i64 x)):
 Calls prog 76 #[.agg A,k] w fun e w'=>e=.returned (.bool (!(x==0)))/\Below w w w':=by
 have c:(k:Int)<4:=by omega
 have d:0<=(k:Int):=by omega
 by_cases a:x=0
 .subst a;go_enter func76,ntmps76;go_wp2;go_ret;exact⟨rfl,zB.alloc zL _⟩
 .have b:(x==0)=false:=by simpa using a
  have g:(x != 0)=true:=by simpa using a
  have f:=za a;clear a;go_enter func76,ntmps76;go_wp2;go_ret;rw[b];exact⟨rfl,zB.alloc zL _⟩
theorem jN (f) (k:Nat) (w) (a:k<4):
 Calls prog 76 #[.agg (encF f),k] w fun e w'=>e=.returned (.bool (vO f k))/\Below w w w':=
 Pk _ k (f.nd k 0) w a (by have:=rk f k 0 a (by omega);rw[vC]at this;rw[this];rfl)
def ta (f:Fo):Nat->Nat->Bool
 | 0=>emp
 | 1=>emp
 | k+2=>if vO f (k+1) then join (ta f (k+1)) (f.hs (k+1)) else ta f (k+1)
def rL (f:Fo):Nat->Nat->Bool
 | 0=>emp
 | k+1=>if vO f k then join (rL f k) (f.hs k) else rL f k
theorem I0 (f) (n k) (c:1<=k) (h:ta f k n=true):∀m,ta f (k+m) n=true
 | 0=>h
 | m+1=>by
  have a:=I0 f n k c h m;obtain⟨j,b⟩:∃j,k+m=j+1:=⟨k+m-1,by omega⟩;rw[show k+(m+1)=j+2 by omega];rw[b]at a;show (if vO f (j+1)=true then join (ta f (j+1)) (f.hs (j+1)) else ta f (j+1)) n=true;split
  .show (ta f (j+1) n||f.hs (j+1) n)=true;rw[a];rfl
  .exact a
theorem Si (A) (n:Nat) (d:256<=n) (w):
 Calls prog 188 #[.agg A,n] w fun e w'=>e=.returned (.bool false)/\Below w w w':=by
 have a:decide ((n:Int)<256)=false:=by rw[zM];omega
 have b:¬(n:Int)<256:=by omega
 have c:decide (0<=(n:Int))=true:=by rw[yJ];omega
 go_enter func188,ntmps188
 go_wp2;go_ret;exact⟨rfl,zB.alloc zL _⟩
theorem JL (f) (A) (O:Hid (A=encF f)) (n) (P:n<256\/∀k,f.hs k n=false) (w):
 Calls prog 159 #[.agg A,.int .i64 n] w fun e w'=>e=.returned (.bool (ta f 4 n))/\Below w w w':=by
 have C:Hid (A.size=192):=by rw[O.o];exact uj f
 go_enter func159,ntmps159
 go_wp2;go_loopw [5] (fun i wr=>∃k:Nat,1<=k/\k<=4/\i=.int .i64 k/\Hid (ta f k n=false)/\Hid (wr.heap[w.heap.size]?=some (.cells A 106))/\Below w w wr) (fun i _=>4-(intOf i).toNat);case atStart=>exact⟨1,by omega,by omega,rfl,rfl,zH,zB.alloc zL _⟩
 case round=>
  obtain⟨k,K,N,rfl,F,y,z⟩:=hrel;by_cases p:k<4
  .have G:(k:Int)<4:=(by omega);have L:0<=(k:Int):=(by omega);obtain⟨j,rfl⟩:∃j,k=j+1:=⟨k-1,by omega⟩;generalize r:j+1=k at *
   have u:=za r;clear r;have B:Hid (∀W,Calls prog 76 #[.agg A,k] W fun e w'=>e=.returned (.bool (vO f k))/\Below W W w'):=fun W=>(by rw[O.o];exact jN f k W p);have b:Hid (ta f (k+1) n=(vO f k&&f.hs k n)):=by
    show _=_;have x:=F.o;rw[<-u.o]at x ⊢;show (if vO f (j+1)=true then join (ta f (j+1)) (f.hs (j+1)) else ta f (j+1)) n=_;cases vO f (j+1) with
    | true=>rw[ze rfl];show (ta f (j+1) n||f.hs (j+1) n)=_;rw[x];simp
    | false=>rw[zb (by simp),x];simp
   have l:Hid (∀W,Calls prog 188 #[.agg (enc (f.hs k)),n] W fun e w'=>e=.returned (.bool (f.hs k n))/\Below W W w'):=fun W=>by
    by_cases q:n<256
    .have:=iL (f.hs k) (n:Int) W (by omega) (by omega);rw[yz]at this;exact this
    .rw[(P.resolve_left q) k];exact Si _ n (by omega) W
   have I:Hid (∀j,j<(enc (f.hs k)).size->A[k*48+16+j]?=(enc (f.hs k))[j]?):=(by rw[O.o];exact Vx f k p);obtain⟨E,H⟩:=zA (enc (f.hs k));have v:Hid (E.size=32):=(by rw[H.o];exact tP _);rw[<-H.o]at l I;go_wp2_with (refine yS rfl 106 (.tmp 2) rfl w rfl 106 A (0,0) _ y.o forT rfl (by rw[C.o];exact forI) ?_)
   refine (B.o _).mono ?_;cases g:vO f k with
   | false=>
    rintro e J ⟨rfl,a⟩;rw[g]at b;have h:=za (wy a y.o);have d:=zf z a;clear g a;go_wp2;go_roundw;case rel=>exact⟨k+1,by omega,by omega,by go_num,b.o,h,d⟩
    case measure=>simp[intOf];omega
   | true=>
    rintro e J ⟨rfl,a⟩;rw[g,uf]at b;have h:=za (wy a y.o);have d:=zf z a;clear g a;go_wp2_with (refine pZ (by kernel_rfl) 102 (.tmp 16) rfl w (k*48+16) rfl 106 A E (0,0) _ h.o I.o setT rfl (by rw[v.o];exact setI) ?_)
    refine (l.o _).mono ?_;cases t:f.hs k n with
    | true=>
     rintro e M ⟨rfl,c⟩;have m:=zf d c;have s:Hid (ta f 4 n=true):=(by have:=I0 f n (k+1) (by omega) (by rw[b.o];exact t) (4-(k+1));rw[show k+1+(4-(k+1))=4 by omega]at this;exact this);clear t c;go_wp2;go_ret;rw[s.o];exact⟨rfl,m⟩
    | false=>
     rintro e M ⟨rfl,c⟩;have m:=zf d c;have D:=za (wy c h.o);rw[t]at b;clear t c;go_wp2;go_roundw;case rel=>exact⟨k+1,by omega,by omega,by go_num,b.o,D,m⟩
     case measure=>simp[intOf];omega
  .obtain rfl:k=4:=(by omega);go_wp2;go_ret;rw[F.o];exact⟨rfl,z⟩
theorem Px (f) (n:Nat) (a:n<256) (w):
 Calls prog 159 #[.agg (encF f),n] w fun e w'=>e=.returned (.bool (ta f 4 n))/\Below w w w':=JL f _ rfl n (zr a) w
theorem Pl (f) (A S4) (Y:Hid (A=encF f)) (Z:Hid (S4=enc (rL f 4))) (w):
 Calls prog 201 #[.agg A] w fun e w'=>e=.returned (.agg S4)/\Below w w w':=by
 have I:Hid (A.size=192):=by rw[Y.o];exact uj f
 obtain⟨r,q⟩:=zA (enc emp);have P:∀w,(zeroValue 102).run prog w=.ok (.agg r) w:=by rw[q.o];exact setZ
 have U:=za P;clear P;go_enter func201,ntmps201;go_wp2_with (refine oC rfl 102 rfl r U.o ?_)
 go_loopw [5] (fun i wr=>∃k:Nat,k<=4/\i=.int .i64 k/\Hid (wr.heap[w.heap.size]?=some (.cells A 106))/\Hid (wr.heap[w.heap.size+1]?=some (.cells r 102))/\Hid (wr.heap[w.heap.size+2]?=some (.cells (enc (rL f k)) 102))/\Below w w wr) (fun i _=>4-(intOf i).toNat)
 case atStart=>
  refine⟨0,by omega,rfl,?_,?_,?_,((zB.alloc zL _).alloc (by simp) _).alloc (by simp;omega) _⟩
  .exact tA (tA (zT w _) _) _
  .exact tA (jV _ _ _ (by simp)) _
  .rw[show enc (rL f 0)=r from q.o.symm];exact jV _ _ _ (by simp)
 case round=>
  obtain⟨k,V,rfl,C,y,v,D⟩:=hrel;by_cases s:k<4
  .have Q:(k:Int)<4:=(by omega);have T:0<=(k:Int):=(by omega);have H:Hid (∀W,Calls prog 76 #[.agg A,k] W fun e w'=>e=.returned (.bool (vO f k))/\Below W W w'):=fun W=>(by rw[Y.o];exact jN f k W s);have R:Hid (∀j,j<(enc (f.hs k)).size->A[k*48+16+j]?=(enc (f.hs k))[j]?):=(by rw[Y.o];exact Vx f k s);obtain⟨E,N⟩:=zA (enc (f.hs k));have z:Hid (E.size=32):=(by rw[N.o];exact tP _);rw[<-N.o]at R;obtain⟨S,h⟩:=zA (enc (rL f k));have b:Hid (S.size=32):=(by rw[h.o];exact tP _);rw[<-h.o]at v;go_wp2_with (refine yS rfl 106 (.tmp 1) rfl w rfl 106 A (0,0) _ C.o forT rfl (by rw[I.o];exact forI) ?_)
   refine (H.o _).mono ?_;cases g:vO f k with
   | false=>
    rintro e O ⟨rfl,a⟩;have n:Hid (rL f (k+1)=rL f k):=(by show (if vO f k=true then _ else _)=_;rw[g,zb (by simp)]);have l:=za (wy a C.o);have p:=za (wy a y.o);have c:Hid (O.heap[w.heap.size+2]?=some (.cells (enc (rL f (k+1))) 102)):=(by rw[n.o,<-h.o];exact wy a v.o);have m:=zf D a;clear g a;go_wp2;go_roundw;case rel=>exact⟨k+1,by omega,by go_num,l,p,c,m⟩
    case measure=>simp[intOf];omega
   | true=>
    rintro e O ⟨rfl,a⟩;have n:Hid (rL f (k+1)=join (rL f k) (f.hs k)):=(by show (if vO f k=true then _ else _)=_;rw[g,ze rfl]);have l:=za (wy a C.o);have p:=za (wy a y.o);have c:=za (wy a v.o);have m:=zf D a;obtain⟨J,x⟩:=zA (enc (rL f (k+1)));have u:Hid (J.size=32):=(by rw[x.o];exact tP _);have B:Hid (J.all (·.oneCell')=true):=(by rw[x.o];exact lW _);have M:Hid (∀W,Calls prog 232 #[.agg S,.agg E] W fun e w'=>e=.returned (.agg J)/\Below W W w'):=fun W=>(by rw[h.o,N.o,x.o,n.o];exact Qa _ _ W);clear g a;go_wp2_with fail
    refine wp_region_still_tail 5 (by kernel_rfl) (by kernel_rfl) ?_;simp only[wZ,xH,vd,wT];refine Gp (by kernel_rfl) 102 (.tmp 3) rfl (w.heap.size+2) 0 rfl 102 S S (0,0) _ c.o (Rz S) setT rfl (by rw[b.o];exact setI) ?_
    still_step
    still_step
    still_step
    refine Gp (by kernel_rfl) 102 (.tmp 14) rfl w (k*48+16) rfl 106 A E (0,0) _ l.o R.o setT rfl (by rw[z.o];exact setI) ?_;refine wpStill_nil ?_;go_wp2_with fail
    refine (M.o _).mono ?_;rintro e X ⟨rfl,d⟩;have L:=za (wy d l.o);have F:=za (wy d p.o);have t:=za (wy d c.o);have K:=zf m.drew d;clear d;go_wp2_with (refine yG rfl 102 (.tmp 3) (.tmp 16) rfl (w.heap.size+2) J rfl rfl 102 S t.o (by rw[u.o];exact setI) (by rw[u.o,b.o]) B.o ?_)
    go_roundw;case rel=>exact⟨k+1,by omega,by go_num,jX L.o _ _ (by omega),jX F.o _ _ (by omega),by rw[<-x.o];exact yh _ _ _ _ _ _ t.o,xI K (by omega) _⟩
    case measure=>simp[intOf];omega
  .obtain rfl:k=4:=(by omega);have b:Hid (S4.size=32):=(by rw[Z.o];exact tP _);have c:Hid (S4.all (·.oneCell')=true):=(by rw[Z.o];exact lW _);have G:Hid (r.size=32):=(by rw[q.o];exact tP _);rw[<-Z.o]at v;go_wp2_with (first
    | (refine yS rfl 102 (.tmp 3) rfl (w.heap.size+2) rfl 102 S4 (0,0) _ v.o setT rfl (by rw[b.o];exact setI) ?_)
    | (refine yG rfl 102 (.tmp 2) (.tmp 18) rfl (w.heap.size+1) S4 rfl rfl 102 r y.o (by rw[b.o];exact setI) (by rw[b.o,G.o]) c.o ?_))
   refine yV (ry rfl _ _ (w.heap.size+1) 102 S4 (0,0) _ rfl (yh _ _ _ _ _ _ y.o) setT rfl (by rw[b.o];exact setI)) rfl ⟨rfl,?_⟩;exact xI D (by omega) _
theorem Wm (f) (w):
 Calls prog 201 #[.agg (encF f)] w fun e w'=>e=.returned (.agg (enc (rL f 4)))/\Below w w w':=Pl f _ _ rfl rfl w
def tL : Fo:=⟨fun _ _=>0,fun _=>emp⟩
theorem forZ: ∀w,(zeroValue 106).run prog w=.ok (.agg (encF tL)) w:=(te (P:=prog) (t:=106) (v:=.agg (encF tL)) (n:=192) (by kernel_rfl)).1
theorem forB: prog.built 106 []=some (encF tL):=by kernel_rfl
def putT (f:Fo) (k:Nat):Fo:=⟨fun a=>if a=k then f.nd 0 else f.nd a,fun a=>if a=k then f.hs 0 else f.hs a⟩
section
variable {P : Program}
theorem Jx {fn:Func} {p q r:Tmp} {ty:TypeId} (h:fn.results=#[.cell p ty,.tmp q,.tmp r]) (tmps:Array Value) (w) (g) (t) (cs) (fr) (d) (v1 v2)
 (hp:tmps.getD p undef=.pointer (some ⟨g,0,none⟩)) (h1:tmps.getD q undef=v1) (h2:tmps.getD r undef=v2) (hg:w.heap[g]?=some (.cells cs t fr))
 (hu:P.underlying ty=some d) (hd:(match d with|.struct _|.array _ _=>true|_=>false)=true) (hi:(P.info? ty).map (·.size)=some cs.size):
 (results fn tmps).run P w=.ok (.tuple #[.agg cs,v1,v2]) w:=by
 have c:tmps[p]?.getD undef=.pointer (some ⟨g,0,none⟩):=by simpa using hp
 have a:tmps[q]?.getD undef=v1:=by simpa using h1
 have b:tmps[r]?.getD undef=v2:=by simpa using h2
 simp[results,h,c,a,b,asAddr,kf w g t ty cs fr d hg hu hd hi]
theorem Ye {fn:Func} {p q:Tmp} {ty:TypeId} (h:fn.results=#[.cell p ty,.tmp q]) (tmps) (w:World) (g:Nat) (t) (cs) (fr) (d) (v1:Value)
 (hp:tmps.getD p undef=.pointer (some ⟨g,0,none⟩)) (h1:tmps.getD q undef=v1) (hg:w.heap[g]?=some (.cells cs t fr))
 (hu:P.underlying ty=some d) (hd:(match d with|.struct _|.array _ _=>true|_=>false)=true) (hi:(P.info? ty).map (·.size)=some cs.size):
 (results fn tmps).run P w=.ok (.tuple #[.agg cs,v1]) w:=by
 have b:tmps[p]?.getD undef=.pointer (some ⟨g,0,none⟩):=by simpa using hp
 have a:tmps[q]?.getD undef=v1:=by simpa using h1
 simp[results,h,b,a,asAddr,kf w g t ty cs fr d hg hu hd hi]
end
theorem Ru (f) (k) (m:k<4):((encF f).toList.take (k*48)++(encT f 0).toList++(encF f).toList.drop (k*48+(encT f 0).size)).toArray=encF (putT f k):=by
 apply xa;intro i;rw[oY];by_cases l:i<192
 .obtain⟨a,j,e,c,rfl⟩:∃a j,a<4/\j<48/\i=a*48+j:=⟨i / 48,i%48,by omega,by omega,by omega⟩;rw[rk _ a j e c,xM];have b:((encF f).toList.take (k*48)).length=k*48:=by rw[zj,yv,uj];omega
  have d:(encT f 0).toList.length=48:=by rw[yv,oY]
  by_cases h:a<k
  .rw[zP,zX (by omega),zI,ze (by omega),zO,rk f a j e c];unfold uU putT;simp only[zb (by omega:¬a=k)]
  .by_cases g:a=k
   .subst g;rw[zP,zy (by omega),zX (by omega),b,show a*48+j-a*48=j by omega,zO,Zj f 0 j c];unfold uU putT;simp only[vl]
   .rw[zy (by rw[zm];omega),zm,b,d,yw,show k*48+48+(a*48+j-(k*48+48))=a*48+j by omega,zO,rk f a j e c];unfold uU putT;simp only[zb g]
 .rw[yd (by simp[uj,oY];omega),yd (by rw[uj];omega)]
def nY (f:Fo):Option Nat:=if vO f 1=false then some 1 else if vO f 2=false then some 2 else if vO f 3=false then some 3 else none
def rm (f:Fo):Fo×Nat×Int:=if vO f 0=true then (match nY f with|some k=>(putT f k,k,0)|none=>(tL,0,6)) else (tL,0,4)
theorem Nx {f:Fo} {k:Nat} (c:1<=k) (d:k<4) (a:∀j,1<=j->j<k->vO f j=true) (b:vO f k=false):nY f=some k:=by
 unfold nY
 match k,c,d with
 | 1,_,_=>rw[ze b]
 | 2,_,_=>rw[zb (by rw[a 1 (by omega) (by omega)];simp),ze b]
 | 3,_,_=>rw[zb (by rw[a 1 (by omega) (by omega)];simp),zb (by rw[a 2 (by omega) (by omega)];simp),ze b]
theorem Ny {f:Fo} (a:∀j,1<=j->j<4->vO f j=true):nY f=none:=by unfold nY;rw[zb (by rw[a 1 (by omega) (by omega)];simp),zb (by rw[a 2 (by omega) (by omega)];simp),zb (by rw[a 3 (by omega) (by omega)];simp)]
theorem Rd (f) (A X) (n) (c) (HA:Hid (A=encF f)) (HX:Hid (X=encF (rm f).1)) (Hn:Hid (n=(rm f).2.1)) (Hc:Hid (c=(rm f).2.2)) (w):
 Calls prog 75 #[.agg A] w fun e w'=>e=.returned (.tuple #[.agg X,.int .i64 n,.int .i64 c])/\Below w w w':=by
 have z:Hid (A.size=192):=by rw[HA.o];exact uj f
 have p:Hid (X.size=192):=by rw[HX.o];exact uj _
 have Y:Hid (X.all (·.oneCell')=true):=by rw[HX.o];exact nx _
 obtain⟨m,g⟩:=zA (encF tL);have T:Hid (∀w,(zeroValue 106).run prog w=.ok (.agg m) w):=by rw[g.o];exact forZ
 have af:Hid (prog.built 106 []=some m):=by rw[g.o];exact forB
 have h:Hid (m.size=192):=by rw[g.o];exact uj _
 have G:Hid (m.all (·.oneCell')=true):=by rw[g.o];exact nx _
 have E:Hid (∀(k:Nat) (W),k<4->Calls prog 76 #[.agg A,k] W fun e w'=>e=.returned (.bool (vO f k))/\Below W W w'):=fun k W hk=>by rw[HA.o];exact jN f k W hk
 go_enter func75,ntmps75
 go_wp2_with (first
  | (refine oC rfl 106 rfl m T.o ?_)
  | (refine yS rfl 106 (.tmp 1) rfl w rfl 106 A (0,0) _ (vH w _ _) forT rfl (by rw[z.o];exact forI) ?_))
 refine (E.o 0 _ (by omega)).mono ?_;cases H:vO f 0 with
 | false=>
  rintro e w1 ⟨rfl,b⟩;have s:=za (wy b (vm w _ _));have x:=zf ((zB.alloc zL _).alloc (by simp) _) b;have d:rm f=(tL,0,4):=by unfold rm;rw[zb (by rw[H];simp)]
  have S:X=m:=by rw[HX.o,d,g.o]
  have F:n=0:=by rw[Hn.o,d]
  have C:c=4:=by rw[Hc.o,d]
  clear H d b;subst S F C;have hz:=T.o;go_wp2_with (first
   | (refine yG rfl 106 (.tmp 2) (.tmp 9) rfl (w.heap.size+1) X rfl rfl 106 X s.o (by rw[h.o];exact forI) rfl G.o ?_))
  refine yV (Jx rfl _ _ (w.heap.size+1) 106 X (0,0) _ (.int .i64 0) (.int .i64 4) rfl rfl rfl (yh _ _ _ _ _ _ s.o) forT rfl (by rw[h.o];exact forI)) rfl ⟨rfl,?_⟩;exact xI x (by omega) _
 | true=>
  rintro e w1 ⟨rfl,b⟩;have U:Hid (w1.heap[w.heap.size]?=some (.cells A 106)):=wy b (vH w _ _);have s:=za (wy b (vm w _ _));have x:=zf ((zB.alloc zL _).alloc (by simp) _) b;have H0:=za H;clear H b;go_wp2;go_loopw [5] (fun i wr=>∃k:Nat,1<=k/\k<=4/\i=.int .i64 k/\Hid (∀j,1<=j->j<k->vO f j=true)/\Hid (wr.heap[w.heap.size]?=some (.cells A 106))/\Hid (wr.heap[w.heap.size+1]?=some (.cells m 106))/\Below w w wr) (fun i _=>4-(intOf i).toNat);case atStart=>exact⟨1,by omega,by omega,rfl,fun j h1 h2=>by omega,U,s,x⟩
  case round=>
   obtain⟨k,J,hk,rfl,P,K,I,M⟩:=hrel;by_cases u:k<4
   .have ae:(k:Int)<4:=(by omega);have ah:0<=(k:Int):=(by omega);go_wp2_with (refine yS rfl 106 (.tmp 1) rfl w rfl 106 A (0,0) _ K.o forT rfl (by rw[z.o];exact forI) ?_)
    refine (E.o k _ u).mono ?_;cases q:vO f k with
    | true=>
     rintro e V ⟨rfl,a⟩;have l:=za (wy a K.o);have y:=za (wy a I.o);have B:=zf M a;have N:Hid (∀j,1<=j->j<k+1->vO f j=true):=fun j h1 h2=>by
      by_cases e:j=k
      .rw[e];exact q
      .exact P.o j h1 (by omega)
     clear q a;go_wp2;go_roundw;case rel=>exact⟨k+1,by omega,by omega,by go_num,N,l,y,B⟩
     case measure=>simp[intOf];omega
    | false=>
     rintro e V ⟨rfl,a⟩;have l:=za (wy a K.o);have y:=za (wy a I.o);have B:=zf M a;have d:rm f=(putT f k,k,0):=(by unfold rm;rw[ze H0.o,Nx J u P.o q]);have R:Hid (X=encF (putT f k)):=(by rw[HX.o,d];exact rfl);have F:n=k:=(by rw[Hn.o,d]);have C:c=0:=(by rw[Hc.o,d]);obtain⟨t,r⟩:=zA (encT f 0);have v:Hid (t.size=48):=(by rw[r.o];exact oY _ _);have Q:Hid (t.all (·.oneCell')=true):=(by rw[r.o];exact Uh _ _);have Z:Hid (∀j,j<t.size->A[0+j]?=t[j]?):=(by have:=Uq f 0 (by omega);rw[uL,<-r.o,<-HA.o]at this;exact this);have L:Hid ((A.toList.take (k*48)++t.toList++A.toList.drop (k*48+t.size)).toArray=X):=(by rw[HA.o,r.o,R.o];exact Ru f k u);have O:Hid ((V.setRow w X).heap[w.heap.size]?=some (.cells X 106)):=yh _ _ _ _ _ _ l.o;have D:Hid ((V.setRow w X).heap[w.heap.size+1]?=some (.cells m 106)):=jX y.o _ _ (by omega);clear q a d;subst F C;go_wp2_with (first
      | (refine pZ (by kernel_rfl) 104 (.tmp 19) rfl w 0 rfl 106 A t (0,0) _ l.o Z.o vy rfl (by rw[v.o];exact qT) ?_)
      | (refine jI rfl 104 (.tmp 21) (.tmp 20) rfl w (n*48) t rfl rfl 106 A X l.o (by rw[v.o];exact qT) (by rw[v.o,z.o];omega) Q.o L.o ?_)
      | (refine yS rfl 106 (.tmp 1) rfl w rfl 106 X (0,0) _ O.o forT rfl (by rw[p.o];exact forI) ?_)
      | (refine yG rfl 106 (.tmp 2) (.tmp 22) rfl (w.heap.size+1) X rfl rfl 106 m D.o (by rw[p.o];exact forI) (by rw[h.o,p.o]) Y.o ?_))
     refine yV (Jx rfl _ _ (w.heap.size+1) 106 X (0,0) _ (.int .i64 (n:Int)) (.int .i64 0) rfl rfl rfl (yh _ _ _ _ _ _ D.o) forT rfl (by rw[p.o];exact forI)) rfl ⟨rfl,?_⟩;exact xI (xI B zL _) (by omega) _
   .obtain rfl:k=4:=(by omega);have d:rm f=(tL,0,6):=(by unfold rm;rw[ze H0.o,Ny P.o]);have S:X=m:=(by rw[HX.o,d,g.o]);have F:n=0:=(by rw[Hn.o,d]);have C:c=6:=(by rw[Hc.o,d]);clear d;subst S F C;have hz:=T.o;go_wp2_with (first
     | (refine yG rfl 106 (.tmp 2) (.tmp 24) rfl (w.heap.size+1) X rfl rfl 106 X I.o (by rw[h.o];exact forI) rfl G.o ?_))
    refine yV (Jx rfl _ _ (w.heap.size+1) 106 X (0,0) _ (.int .i64 0) (.int .i64 6) rfl rfl rfl (yh _ _ _ _ _ _ I.o) forT rfl (by rw[h.o];exact forI)) rfl ⟨rfl,?_⟩;exact xI M (by omega) _
