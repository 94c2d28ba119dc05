import Derived.Test.YtakfhadmokoikaaGreatDoorKA2
import Derived.Test.YtakfhadmokoikaaGreatDoorProg
import Derived.WalkSpells
import Derived.WalkLawsBesides
import Derived.Lib.Hide
import Derived.LoopTactic
import Derived.RegionTactic
import Derived.BigRegion
set_option maxHeartbeats 0
set_option linter.all false
set_option maxRecDepth 100000
namespace Go.Proofs.YtakfhadmokoikaaGreatDoor
open Go.Proofs.Tryz Go.RowKit
variable {l:List Int}
abbrev nQ:=@func155
abbrev nR:=@func127
abbrev pS:=@ntmps155
abbrev pT:=@ntmps127
abbrev qE:=@wpList_mapUpdate_own
abbrev vF:=@underlying93
abbrev wY:=@below_drewN
abbrev xa:=@ntmps128
abbrev xr:=@func128
def pk (a n:Int):Int:=wrap64 ((IntKind.u64.wrap a).tmod n)
theorem ro (a n:Int) (e:0<n) (f:n<9223372036854775808):0<=pk a n/\pk a n<n:=by
 unfold pk;have b:0<=IntKind.u64.wrap a:=by simp[IntKind.wrap,IntKind.bits,IntKind.signed];omega
 have d:=Int.tmod_nonneg n b;have c:=oH (IntKind.u64.wrap a) e;have:wrap64 ((IntKind.u64.wrap a).tmod n)=(IntKind.u64.wrap a).tmod n:=by unfold wrap64;omega
 rw[this];exact⟨d,c⟩
theorem og (a n:Int) (w:World) (b:0<n) (c:n<9223372036854775808):
 Calls prog 9 #[a,n] w fun e w'=>e=.returned (.int .i64 (pk a n))/\w=w':=by
 go_enter func9,ntmps9
 go_wp2;go_ret;exact⟨rfl,rfl⟩
theorem tK {k:IntKind} {a b:Int} (h:a=b):Ending.returned (.int k a)=.returned (.int k b):=by rw[h]
theorem fv (v:Value) (l:List Int) (w:World) (h:vQ w v l) (H:l.length<=1000000):
 Calls prog 164 #[v] w fun e w'=>e=.returned (.int .i64 (tI l))/\w=w':=by
 obtain⟨b,⟨y,F,G,rfl⟩|⟨g,C,A,rfl,z⟩⟩:=h
 .have j:Hid (tI l=0):=by have:l=[]:=yG.1 y;subst this;rfl
  clear b y;go_enter func164,ntmps164;go_wp2
  go_loop [10] (fun i=>i=.int .i64 0) (fun _=>0)
  case atStart=>rfl
  case round =>obtain rfl:=hrel;go_wp2;go_ret;exact⟨tK j.o.symm,rfl⟩
 .have B:=Lib.hid z;clear z b;obtain⟨n,f⟩:=zA l.length;rw[<-f.o]at H ⊢;by_cases a:8<n
  .have j:Hid (tI l=2):=(by unfold tI Hid;rw[<-f.o,ze a]);go_enter func164,ntmps164;go_wp2;go_ret;exact⟨tK j.o.symm,rfl⟩
  .go_enter func164,ntmps164
   go_wp2
   go_loop [10] (fun i=>∃k:Nat,k<=n/\i=.int .i64 k/\Hid ((l.take k).any badP=false)) (fun i=>n-(intOf i).toNat)
   case atStart=>exact⟨0,ye _,rfl,rfl⟩
   case round=>
    obtain⟨k,E,rfl,x⟩:=hrel;by_cases m:k<n
    .have c:k<l.length:=(by rw[<-f.o];exact m);have d:=B.o k _ (mt l k c);obtain⟨p,r⟩:=zA (l[k]);rw[<-r.o]at d;have t:Hid (badP p=true->tI l=1):=fun q=>(by unfold tI;rw[<-f.o,zb a,ze];rw[xX];exact⟨l[k],zz c,by rw[<-r.o];exact q⟩);have D:Hid (badP p=false->(l.take (k+1)).any badP=false):=fun q=>(by rw[<-zY c,List.any_append,x.o,<-r.o];simp[q]);by_cases s:p<0
     .go_wp2;go_ret;exact⟨tK (t.o (by simp[badP,s])).symm,rfl⟩
     .by_cases u:256<=p
      .go_wp2;go_ret;exact⟨tK (t.o (by simp[badP,u])).symm,rfl⟩
      .go_wp2
       go_round
       case rel=>exact⟨k+1,by omega,by go_num,D.o (by simp[badP,s,u])⟩
       case measure=>simp[intOf];omega
    .have j:Hid (tI l=0):=(by unfold tI Hid;have:=x.o;rw[zv (by rw[<-f.o];omega)]at this;rw[<-f.o,zb a,zb (by simp[this])]);go_wp2;go_ret;exact⟨tK j.o.symm,rfl⟩
theorem Rs (a b p:Int) (w:World) (g:0<=a) (h:a<=1000) (i:0<=b) (j:b<=1000):
 Calls prog 207 #[.agg #[a,b],p] w fun e w'=>e=.returned (.bool (lC (a,b) p))/\Below w w w':=by
 by_cases c:a=0
 .have f:(a==0)=true:=by simpa using c
  have d:Hid (lC (a,b) p=(p==0)):=by simp[lC,c,Hid]
  clear c;go_enter func207,ntmps207;go_wp2;go_ret;rw[d.o];exact⟨rfl,zB.alloc zL _⟩
 .have f:(a==0)=false:=by simpa using c
  have d:Hid (lC (a,b) p=(p==a+b)):=by simp[lC,c,Hid]
  clear c;go_enter func207,ntmps207;go_wp2;go_ret;rw[d.o];exact⟨rfl,zB.alloc zL _⟩
theorem Yr: (prog.info? 245).map (fun i=>(i.zero,i.size,i.bytes))=some (some (.agg #[(),()]),2,16):=by kernel_rfl
theorem j1: prog.underlying 241=some (.slice 245):=by kernel_rfl
theorem XB {p q:Int}:∀u,u∈[Value.int .i64 p,Value.int .i64 q]->u.oneCell'=true:=by intro u a;simp at a;rcases a with rfl|rfl<;>rfl
def OfRes (l:List Int) (w:World) (e:Ending) (w':World):Prop:=
 ∃v,e=.returned (.tuple #[v,()])/\w'.ownsRow w 245 2 v (ofR l).length (wT (ofE l))/\Below w w w'
theorem UW (v:Value) (l:List Int) (w:World) (h:vQ w v l) (hr:tI l=0):
 Calls prog 165 #[v] w (OfRes l w):=by
 have an:l.length<=8:=by
  unfold tI at hr;split at hr
  .cases hr
  .omega
 have ae:∀p,p∈l->0<=p/\p<=255:=fun p hp=>by
  unfold tI at hr;split at hr
  .cases hr
  .split at hr
   .cases hr
   .rename_i Y;have:badP p=false:=by
     cases hb:badP p with
     | false=>rfl
     | true=>exact yb (xX.2 ⟨p,hp,hb⟩) Y
    simp[badP]at this;omega
 have HR:=Lib.hid hr;have Z:=Lib.hid ae;have H:=Lib.hid h;clear hr ae h;obtain⟨i0,hi,U,ad,aa⟩:=xp Yr;have HI:=Lib.hid hi;have af:=Lib.hid U;have ag:=Lib.hid ad;have X:=Lib.hid aa;clear hi U ad aa;obtain⟨n,Q⟩:=zA l.length;rw[<-Q.o]at an;obtain⟨p0,F,hv,HC⟩:∃p F,v=.slice p n F/\Hid (∀(W:World),Below w w W->∀k (hk:k<l.length),∃g A,p=some ⟨g,A,none⟩/\W.cell? ⟨g,A+k,none⟩=some (.int .i64 l[k])):=by
  obtain⟨a3,⟨h0,a0,c0,hv⟩|⟨g,A,F,hv,hc⟩⟩:=H.o
  .exact⟨a0,c0,by rw[Q.o,h0];exact hv,fun W _ k hk=>by omega⟩
  .refine⟨_,F,by rw[Q.o];exact hv,fun W hb k hk=>⟨g,A,rfl,?_⟩⟩;have:=hc k _ (mt l k hk);exact (hb.cell (zG this)).trans this
 subst hv;go_enter func165,ntmps165;go_wp2_with fail
 refine (fv _ l _ H.o (by rw[<-Q.o];omega)).mono ?_;rw[HR.o];rintro e w' ⟨rfl,rfl⟩;go_wp2;go_loopw [5,16] (fun o i wr=>∃k:Nat,k<=n/\i=.int .i64 k/\Hid (wr.ownsRow w 245 2 o (ofR (l.take k)).length (wT (ofE (l.take k))))/\Below w w wr) (fun _ i _=>n-(intOf i).toNat);case atStart=>exact⟨0,ye _,rfl,yW _ _ _ _,zB⟩
 case round=>
  obtain⟨k,hk,rfl,E,B⟩:=hrel;by_cases ap:k<n
  .have P:k<l.length:=(by rw[<-Q.o];exact ap);obtain⟨g,A,hp,J⟩:=HC.o wr B k P;subst hp;obtain⟨p,Hp⟩:=zA (l[k]);rw[<-Hp.o]at J;have aw:0<=p/\p<=255:=(by rw[Hp.o];exact Z.o _ (zz P));obtain⟨aO,aL⟩:=aw;have C:=m8 k (l.take k) (by rw[zi];omega) (fun q hq=>Z.o q (xd hq));have HS:Hid (ofR (l.take (k+1))=oX (ofR (l.take k)) p):=(by rw[<-zY P,Y4,Hp.o];exact rfl);unfold ofE at E ⊢;generalize ofR (l.take k)=R at *
   obtain⟨C,D⟩:=C;have av:=Lib.hid C;clear C;cases R with
   | nil=>
    obtain⟨c0,cp,M⟩:∃c0 cp,u5=.slice c0 0 cp:=by
     obtain⟨_,⟨rfl,_⟩|⟨s,c,y,rfl,_⟩⟩:=E.o
     .exact⟨_,_,rfl⟩
     .exact⟨_,_,rfl⟩
    subst M;have I:=(E.o.alloc (.cells #[p,(1:Int)] 245)).lt;go_wp2_with (first
     | (at_builtin;refine yH _ rfl _ _ 241 rfl w.heap.size 245 i0 (.agg #[(),()]) 2 16 j1 HI.o af.o ag.o X.o rfl (by decide) _ _ _ rfl (E.o.alloc _) ⟨wr.heap.size,0,none⟩ 1 1 [.int .i64 p,.int .i64 1] rfl rfl (fun j u M=>Zn _ #[p,(1:Int)] _ j u M) XB (by simp only[xP]at D ⊢;unfold maxLen;omega) (by simp only[xP]at D ⊢;omega) (by have:=B.size;  simp;omega) ?_;intro v' S m d _))
    have K:Hid (S.ownsRow w 245 2 v' (ofR (l.take (k+1))).length (wT (ofE (l.take (k+1))))):=(by unfold ofE;rw[HS.o,QL];have:S.ownsRow w 245 2 v' 1 (wT [(p,1)]):=(by simpa[wT]using m);exact this);have N:Below w w S:=xC (B.alloc B.size _) d (by have:=B.size;simp;omega) (fun q hq=>(I q hq).1);clear m d I;go_wp2;go_roundw;case rel=>exact⟨k+1,by omega,by go_num,K,N⟩
    case measure=>simp[intOf];omega
   | cons x r=>
    obtain⟨a,b⟩:=x;have ax:=av.o (a,b) (by simp);obtain⟨a1,aE,aI,aP⟩:=ax;obtain⟨s,c,y,M,V,hh,a2⟩:∃s c y,u5=.slice (some ⟨s,0,none⟩) (r.length+1) c/\w.heap.size<=s/\Hid (wr.heap[s]?=some (.cells y 245))/\r.length+1<=c:=by
     obtain⟨_,⟨rfl,h0⟩|⟨s,c,y,rfl,h1,h2,h3,_⟩⟩:=E.o
     .simp at h0
     .exact⟨s,c,y,rfl,h1,h2,h3⟩
    subst M;have t:Hid (wr.ownsRow w 245 2 (s,0,(r.length+1),c) (r.length+1) (wT (r.reverse++[(a,b)]))):=(by have:=E.o;rw[ut]at this;exact this);clear E;have aD:r.length+1<=k:=D;clear D;have L:=O6 r.reverse (a,b);have aF:wr.cell? (s,r.length*2)=some (.int .i64 a):=(by rw[World.ownsRow.cellAt t.o _ (by omega)];simpa using L.1);have O:wr.cell? (s,r.length*2+1)=some (.int .i64 b):=(by rw[World.ownsRow.cellAt t.o _ (by omega)];simpa using L.2);clear L;have au:wr.frozen? (s,r.length*2+1)=false:=zF hh.out;have HG:Hid (∀W:World,Calls prog 207 #[.agg #[a,b],p] W fun e w'=>e=.returned (.bool (lC (a,b) p))/\Below W W w'):=fun W=>Rs a b p W a1 (by omega) (by omega) (by omega);cases G:lC (a,b) p
    .have z:=Lib.hid G;clear G;go_wp2_with (first
      | (go_at_call 207;refine (HG.o _).mono ?_;rw[z.o];rintro e w3 ⟨rfl,f⟩)
      | (at_builtin;refine yH _ rfl _ _ 241 rfl w.heap.size 245 i0 (.agg #[(),()]) 2 16 j1 HI.o af.o ag.o X.o rfl (by decide) _ _ _ rfl ((th t.o f).alloc _) ⟨w3.heap.size,0,none⟩ 1 1 [.int .i64 p,.int .i64 1] rfl rfl (fun j u M=>Zn _ #[p,(1:Int)] _ j u M) XB (by unfold maxLen;omega) (by omega) (by have:=B.size;have:=f.size;simp;omega) ?_;intro v' S m d _))
     have K:Hid (S.ownsRow w 245 2 v' (ofR (l.take (k+1))).length (wT (ofE (l.take (k+1))))):=(by unfold ofE;rw[HS.o,Sq z.o,ut,ut,oW (r.reverse++[(a,b)])];exact m);have N:Below w w S:=xC ((Below.step B f).alloc (by have:=B.size;have:=f.size;omega) _) d (by have:=B.size;have:=f.size;simp;omega) (fun q hq=>by cases hq;exact V);clear m d;go_wp2;go_roundw;case rel=>exact⟨k+1,by omega,by go_num,K,N⟩
     case measure=>simp[intOf];omega
    .have z:=Lib.hid G;clear G;go_wp2_with (first
      | (go_at_call 207;refine (HG.o _).mono ?_;rw[z.o];rintro e w3 ⟨rfl,f⟩;have aC:w3.cell? (s,r.length*2+1)=some (.int .i64 b):=(f.cell (zG O)).trans O;have aA:w3.frozen? (s,r.length*2+1)=false:=(f.frozen (zG O)).trans au))
     go_roundw;case rel=>
      refine⟨k+1,by omega,by go_num,?_,(Below.step B f).setCell V _⟩;have h1:=(th t.o f).stored (r.length*2+1) (.int .i64 (b+1));have h2:=I9 r.reverse a b (b+1);rw[ug]at h2;rw[h2]at h1;rw[HS.o,QK z.o,ut];exact h1.1
     case measure=>simp[intOf];omega
  .have T:k=n:=(by omega);have HF:Hid (l.take k=l):=(by rw[T,Q.o];exact xN);have t:Hid (wr.ownsRow w 245 2 u5 (ofR l).length (wT (ofE l))):=(by have:=E.o;rw[HF.o]at this;exact this);clear T E HF;go_wp2;go_ret2;exact⟨_,rfl,t.o,B⟩
def lE (l:List (Int×Int)):List Int:=l.flatMap fun x=>[x.1,x.2]
theorem Km (l:List (Int×Int)):(lE l).length=l.length*2:=by
 induction l with
 | nil=>rfl
 | cons x l a=>simp only[lE,xA,zl,yz,xP]at *;omega
theorem Lp (a b:List (Int×Int)):lE (a++b)=lE a++lE b:=by simp[lE]
def sk (l:List (Int×Int)):List Int:=lE l++List.replicate (16-l.length*2) 0
def byts (l:List Int):Array Value:=(l.map fun n=>Value.int .u8 n).toArray
theorem SL (l:List (Int×Int)) (x:Int×Int) (h:l.length<8):((byts (sk l)).setIfInBounds (l.length*2) (.int .u8 x.1)).setIfInBounds (l.length*2+1) (.int .u8 x.2)=byts (sk (l++[x])):=by have a:=Km l;unfold byts sk;rw[Lp,zl,show 16-l.length*2=(14-l.length*2)+1+1 by omega,vI,vI,show 16-(l.length+[x].length)*2=14-l.length*2 by simp;omega];simp only[zM,yB,yI];rw[vU _ _ (by simp;omega)];rw[show l.length*2-(List.map (fun n=>Value.int IntKind.u8 n) (lE l)).length=0 by simp;omega];rw[vU _ _ (by simp;omega)];rw[show l.length*2+1-(List.map (fun n=>Value.int IntKind.u8 n) (lE l)).length=1 by simp;omega];simp[lE]
theorem Pb (l:List (Int×Int)) (h:l.length<=8):(byts (sk l)).size=16:=by have:=Km l;simp[byts,sk];omega
theorem make16 (W:World):(Instr.makeSlice 23 (.int .i64 16) (.int .i64 16)).run prog W=.ok (.slice (some ⟨W.heap.size,0,none⟩) 16 16) (W.alloc (.cells (byts (sk [])) 5)):=by kernel_rfl
theorem WN (a:tI l=0):l.length<=8:=by
 unfold tI at a;split at a
 .cases a
 .omega
theorem gB (d:tI l=0):∀p,p∈l->0<=p/\p<=255:=fun p b=>by
 unfold tI at d;split at d
 .cases d
 .split at d
  .cases d
  .rename_i a;have:badP p=false:=by
    cases c:badP p with
    | false=>rfl
    | true=>exact yb (xX.2 ⟨p,b,c⟩) a
   simp[badP]at this;omega
def TF (l:List Int) (w:World) (e:Ending) (w':World):Prop:=
 ∃g,e=.returned (.tuple #[.slice (some ⟨g,0,none⟩) 16 16,()])/\w.heap.size<=g/\w'.heap[g]?=some (.cells (byts (sk (ofE l))) 5)/\Below w w w'
theorem L7 (v:Value) (l:List Int) (w:World) (h:vQ w v l) (hr:tI l=0):
 Calls prog 129 #[v] w (TF l w):=by
 have H:=Lib.hid h;have HR:=Lib.hid hr;clear h hr;obtain⟨Z0,E⟩:=zA (byts (sk []));have ar:∀W:World,(Instr.makeSlice 23 (.int .i64 16) (.int .i64 16)).run prog W=.ok (.slice (some ⟨W.heap.size,0,none⟩) 16 16) (W.alloc (.cells Z0 5)):=fun W=>by rw[E.o];exact make16 W
 go_enter func129,ntmps129
 go_wp2_with fail
 refine (UW _ l _ H.o HR.o).mono ?_;rintro e c ⟨o,rfl,n,d⟩;have J:∀p,p∈l->0<=p/\p<=255:=gB HR.o;have M:=WN HR.o;have D:=m8 l.length l rfl J;obtain⟨q,az,hv,hq⟩:=tR n;have O:=Lib.hid hq;subst hv;have hN:(ofR l).length=(ofE l).length:=by simp[ofE]
 have X:Hid (∀x,x∈ofE l->0<=x.1/\x.1<=255/\1<=x.2/\x.2<=8):=fun x s=>by have:=D.1 x (by simpa[ofE]using s);omega
 obtain⟨N,G⟩:=zA ((ofE l).length);have av:N<=8:=by rw[G.o,<-hN];omega
 rw[hN,<-G.o]at O ⊢;clear J M D n hq hN;have F:=d;have V:Below w w (c.alloc (.cells Z0 5)):=d.alloc d.size _;go_wp2_with fail
 go_loopw [20] (fun i wr=>∃k:Nat,k<=N/\i=.int .i64 k/\Below w w wr/\Hid (wr.heap[c.heap.size]?=some (.cells (byts (sk ((ofE l).take k))) 5))
  /\Hid (∀g,q=some ⟨g,0,none⟩->∀(j:Nat) (x:Value),(wT (ofE l))[j]?=some x->wr.cell? ⟨g,j,none⟩=some x)) (fun i _=>N-(intOf i).toNat)
 case atStart=>
  refine⟨0,ye _,rfl,V,?_,fun g hg j x s=>?_⟩
  .rw[xE,<-E.o];exact zH
  .have h0:0<N:=by
    rw[G.o];rcases vh (ofE l).length with h|h
    .rw[yG.1 h]at s;simp[wT]at s
    .exact h
   obtain⟨K,m,_,hc⟩:=O.o h0;rw[hg]at m;cases m;have:=hc j x s;exact (wk _ _ _ (zG this)).trans this
 case round=>
  obtain⟨k,hk,rfl,HB,t,R⟩:=hrel;by_cases T:k<N
  .have u:k<(ofE l).length:=(by rw[<-G.o];exact T);obtain⟨g,Y,hg,C⟩:=O.o (by omega);subst Y;have I:=XM (ofE l) k u;obtain⟨a,b,y⟩:∃a b,(ofE l)[k]=(a,b):=⟨_,_,rfl⟩;have hr:=X.o _ (zz u);rw[y]at I hr;have ap:g<c.heap.size:=zG (C _ _ I.1);clear C;have ca:=R.o g rfl _ _ I.1;have cb:=R.o g rfl _ _ I.2;obtain⟨ae,L,U,d⟩:=hr;simp only at ae L U d ca cb;have B:=Lib.hid y;clear y I;have Q:=Pb ((ofE l).take k) (by rw[zi];omega);have an:c.heap.size<wr.heap.size:=xL t.o;have r:∀j,j<16->∃x,wr.cell? ⟨c.heap.size,j,none⟩=some x:=fun j hj=>(by rw[zC t.o];exact⟨_,xt (by rw[Q];exact hj)⟩);obtain⟨x0,S⟩:=r (2*k) (by omega);obtain⟨x1,ac⟩:=r (2*k+1) (by omega);have f0:wr.frozen? (c.heap.size,2*k)=false:=zF t.o;have f1:wr.frozen? (c.heap.size,2*k+1)=false:=zF t.o;clear r;have HZ:=Lib.hid Q;clear Q;go_wp2
   go_region
   all_goals
    have f:=F.size;have Z:Below w w (((wr.setCell {block:=c.heap.size,off:=2*k} (Value.int IntKind.u8 a)).setCell {block:=c.heap.size,off:=2*k+1} (Value.int IntKind.u8 b)).alloc (Obj.cells #[Value.int IntKind.i64 a,Value.int IntKind.i64 b] 245)).drew:=
     (((HB.setCell f _).setCell f _).alloc ((HB.setCell f _).setCell f _).size _).drew
    have P:Hid ((((wr.setCell {block:=c.heap.size,off:=2*k} (Value.int IntKind.u8 a)).setCell {block:=c.heap.size,off:=2*k+1} (Value.int IntKind.u8 b)).alloc (Obj.cells #[Value.int IntKind.i64 a,Value.int IntKind.i64 b] 245)).drew.heap[c.heap.size]?=some (.cells (byts (sk ((ofE l).take (k+1)))) 5)):=(by have h1:=tf (zX _ _ (2*k+1) _ _ (.int .u8 b) (zX _ _ (2*k) _ _ (.int .u8 a) t.o)) (Obj.cells #[Value.int IntKind.i64 a,Value.int IntKind.i64 b] 245);have z:=SL ((ofE l).take k) (a,b) (by rw[zi];omega);rw[zi,show min k (ofE l).length=k by omega,show k*2=2*k by omega,<-B.o,zY u]at z;simp only[B.o]at z;rw[<-z];exact h1);have H5:Hid (∀K,some (⟨g,0,none⟩:Addr)=some ⟨K,0,none⟩->∀(j:Nat) (x:Value),(wT (ofE l))[j]?=some x->(((wr.setCell {block:=c.heap.size,off:=2*k} (Value.int IntKind.u8 a)).setCell {block:=c.heap.size,off:=2*k+1} (Value.int IntKind.u8 b)).alloc (Obj.cells #[Value.int IntKind.i64 a,Value.int IntKind.i64 b] 245)).drew.cell? ⟨K,j,none⟩=some x):=fun K m j x s=>(by cases m;have h1:=R.o g rfl j x s;have z:((wr.setCell {block:=c.heap.size,off:=2*k} (Value.int IntKind.u8 a)).setCell {block:=c.heap.size,off:=2*k+1} (Value.int IntKind.u8 b)).cell? ⟨g,j,none⟩=some x:=(by rw[uJ _ _ _ _ (by intro e;cases e;omega),uJ _ _ _ _ (by intro e;cases e;omega)];exact h1);exact (wk _ _ _ (zG z)).trans z);clear ca cb S ac f0 f1;go_wp2;go_roundw;case rel=>exact⟨k+1,by omega,by go_num,Z,P,H5⟩
    case measure=>simp[intOf];omega
  .have A:k=N:=(by omega);have HF:Hid ((ofE l).take k=ofE l):=(by rw[A,G.o];exact xN);have P:Hid (wr.heap[c.heap.size]?=some (.cells (byts (sk (ofE l))) 5)):=(by have:=t.o;rw[HF.o]at this;exact this);clear A t HF;go_wp2;go_ret2;exact⟨_,rfl,F.size,P.o,HB⟩
theorem setT: prog.underlying 91=some (.array 32 5):=by kernel_rfl
theorem setI: (prog.info? 91).map (·.size)=some 32:=by kernel_rfl
theorem Below.setRow {B:Nat} {a w:World} (h:Below B a w) {g:Nat} (c:B<=g) (cs:Array Value):Below B a (w.setRow g cs):=
 ⟨h.os,h.tape,h.output,by have:=h.size;simp only[World.setRow,nW];exact this,fun k b=>by rw[yZ _ _ _ _ (by omega)];exact h.block k b⟩
theorem TM (A B:Array Value) (n:Nat) (w:World) (d:n<256) (x:Int) (f:A[n / 8]?=some (.int .u8 x))
 (b:Hid (A.setIfInBounds (n / 8) (Value.int IntKind.u8 (bits BinOp.or IntKind.u8 x (2 ^ (n%8)%256)))=B)) (a:Hid (B.size=32)) (c:Hid (B.all (·.oneCell')=true)):
 Calls prog 89 #[.agg A,n] w fun e w'=>e=.returned (.agg B)/\Below w w w':=by
 go_enter func89,ntmps89
 go_wp2
 go_region
 all_goals
  rw[b.o];go_wp2_with (first
   | (refine yQ rfl 91 (.tmp 2) rfl w rfl 91 B (0,0) _ (vG w _ _) setT rfl (by rw[a.o];exact setI) ?_)
   | (refine yD rfl 91 (.tmp 4) (.tmp 20) rfl (w.heap.size+1) B rfl rfl 91 _ (vg w _ _) (by rw[a.o];exact setI) (by rw[a.o];rfl) c ?_))
  refine yS (rd rfl _ _ (w.heap.size+1) 91 B (0,0) _ rfl (yi _ _ _ _ _ _ (vg w _ _)) setT rfl (by rw[a.o];exact setI)) rfl ⟨rfl,?_⟩;exact Below.setRow ((zB.alloc zL _).alloc (by simp) _).drew (by omega) _
theorem iz (s:Nat->Bool) (n:Int) (w:World) (a:0<=n) (b:n<256):
 Calls prog 89 #[.agg (enc s),n] w fun e w'=>e=.returned (.agg (enc (ins s n.toNat)))/\Below w w w':=by
 obtain⟨k,rfl⟩:=wd a;exact TM (enc s) _ k w (by omega) _ (pQ s (k / 8) (by omega)) (Tu s k (by omega)) (tF _) (lO _)
theorem Mc (A B:Array Value) (n:Nat) (w:World) (d:n<256) (x:Int) (f:A[n / 8]?=some (.int .u8 x))
 (b:Hid (A.setIfInBounds (n / 8) (Value.int IntKind.u8 (bits BinOp.andNot IntKind.u8 x (2 ^ (n%8)%256)))=B)) (a:Hid (B.size=32)) (c:Hid (B.all (·.oneCell')=true)):
 Calls prog 85 #[.agg A,n] w fun e w'=>e=.returned (.agg B)/\Below w w w':=by
 go_enter func85,ntmps85
 go_wp2
 go_region
 all_goals
  rw[b.o];go_wp2_with (first
   | (refine yQ rfl 91 (.tmp 2) rfl w rfl 91 B (0,0) _ (vG w _ _) setT rfl (by rw[a.o];exact setI) ?_)
   | (refine yD rfl 91 (.tmp 4) (.tmp 20) rfl (w.heap.size+1) B rfl rfl 91 _ (vg w _ _) (by rw[a.o];exact setI) (by rw[a.o];rfl) c ?_))
  refine yS (rd rfl _ _ (w.heap.size+1) 91 B (0,0) _ rfl (yi _ _ _ _ _ _ (vg w _ _)) setT rfl (by rw[a.o];exact setI)) rfl ⟨rfl,?_⟩;exact Below.setRow ((zB.alloc zL _).alloc (by simp) _).drew (by omega) _
theorem K8 (s:Nat->Bool) (n:Int) (w:World) (a:0<=n) (b:n<256):
 Calls prog 85 #[.agg (enc s),n] w fun e w'=>e=.returned (.agg (enc (del s n.toNat)))/\Below w w w':=by
 obtain⟨k,rfl⟩:=wd a;exact Mc (enc s) _ k w (by omega) _ (pQ s (k / 8) (by omega)) (Tw s k (by omega)) (tF _) (lO _)
theorem Te (A:Array Value) (n:Nat) (w:World) (a:n<256) (x:Int) (b:A[n / 8]?=some (.int .u8 x)):
 Calls prog 161 #[.agg A,n] w fun e w'=>e=.returned (.bool (bits BinOp.and IntKind.u8 (x / 2 ^ (n%8)) 1==1))/\Below w w w':=by
 go_enter func161,ntmps161
 go_wp2;go_ret;exact⟨rfl,zB.alloc zL _⟩
theorem io (s:Nat->Bool) (n:Int) (w:World) (d:0<=n) (f:n<256):
 Calls prog 161 #[.agg (enc s),n] w fun e w'=>e=.returned (.bool (s n.toNat))/\Below w w w':=by
 obtain⟨k,rfl⟩:=wd d;refine (Te (enc s) k w (by omega) _ (pQ s (k / 8) (by omega))).mono fun e w' ⟨b,c⟩=>⟨?_,c⟩;rw[b];unfold tD;rw[Os _ _ (by omega)];have a:8*(k / 8)+k%8=k:=by omega
 rw[a];simp only[yy];cases s k<;>rfl
theorem byteT: prog.underlying 5=some (.int .u8):=by kernel_rfl
theorem byteI: (prog.info? 5).map (·.size)=some 1:=by kernel_rfl
theorem jD (w:World) (o:Obj) (i:Nat) (h:i=w.heap.size):(w.alloc o).heap[i]?=some o:=by rw[h];exact zT w o
theorem Rl (s t:Nat->Bool) (A T R:Array Value) (y:Hid (A=enc s)) (z:Hid (T=enc t)) (x:Hid (enc (join s t)=R)) (w:World):
 Calls prog 206 #[.agg A,.agg T] w fun e w'=>e=.returned (.agg R)/\Below w w w':=by
 go_enter func206,ntmps206
 go_wp2;go_loopw [6] (fun i wr=>∃k:Nat,k<=32/\i=.int .i64 k/\Below w w wr/\Hid (wr.heap[w.heap.size]?=some (.cells (enc (my s (join s t) k)) 91))/\Hid (wr.heap[w.heap.size+1]?=some (.cells (enc t) 91))
  /\Hid (∃Z,wr.heap[w.heap.size+2]?=some (.cells Z 91)/\Z.size=32)) (fun i _=>32-(intOf i).toNat)
 case atStart=>
  refine⟨0,by omega,rfl,((zB.alloc zL _).alloc (by simp) _).alloc (by simp;omega) _,?_,?_,⟨_,jD _ _ _ (by simp),rfl⟩⟩
  .rw[RW,<-y.o];exact (vj _ _ _ (by simp;omega)).trans ((vj _ _ _ (by simp)).trans (zH))
  .rw[<-z.o];exact (vj _ _ _ (by simp)).trans (jD _ _ _ (by simp))
 case round=>
  obtain⟨k,r,rfl,h,b,j,g⟩:=hrel;by_cases a:k<32
  .have v:wr.cell? (w.heap.size,k)=some (.int .u8 (tD s k)):=(by rw[xR _ _ k _ _ _ b.o,pQ _ _ a,N8]);have u:wr.cell? (w.heap.size+1,k)=some (.int .u8 (tD t k)):=(by rw[xR _ _ k _ _ _ j.o,pQ _ _ a]);have q:wr.frozen? (w.heap.size,k)=false:=frozen_of_row _ _ k _ _ b.o;go_wp2
   go_region
   all_goals
    go_wp2;go_roundw;case rel=>
     refine⟨k+1,by omega,by go_num,(h.setCell zL _).drew,?_,(oo _ _ _ _ (by simp)).trans j.o,?_⟩
     .rw[MS];exact (zX _ _ _ _ _ _ b.o).trans (by rw[Tt s (join s t) k a])
     .obtain⟨Z,d,c⟩:=g.o;exact⟨Z,(oo _ _ _ _ (by simp)).trans d,c⟩
    case measure=>simp[intOf];omega
  .obtain rfl:k=32:=(by omega);obtain⟨Z,d,c⟩:=g.o;have l:=Lib.hid d;have p:=Lib.hid c;have m:Hid (wr.heap[w.heap.size]?=some (.cells R 91)):=(by have:=b.o;rw[Oj,x.o]at this;exact this);have f:Hid (R.size=32):=(by rw[<-x.o];exact tF _);have n:Hid (R.all (·.oneCell')=true):=(by rw[<-x.o];exact lO _);clear d c b g;go_wp2_with (first
    | (refine yQ rfl 91 (.tmp 2) rfl w rfl 91 R (0,0) _ m.out setT rfl (by rw[f.o];exact setI) ?_)
    | (refine yD rfl 91 (.tmp 4) (.tmp 18) rfl (w.heap.size+2) R rfl rfl 91 Z l.out (by rw[f.o];exact setI) (by rw[f.o,p.out]) n.o ?_))
   refine yS (rd rfl _ _ (w.heap.size+2) 91 R (0,0) _ rfl (yi _ _ _ _ _ _ l.out) setT rfl (by rw[f.o];exact setI)) rfl ⟨rfl,?_⟩;exact Below.setRow h (by omega) _
theorem Rm (s t:Nat->Bool) (w:World):
 Calls prog 206 #[.agg (enc s),.agg (enc t)] w fun e w'=>e=.returned (.agg (enc (join s t)))/\Below w w w':=Rl s t _ _ _ rfl rfl rfl w
def Qs (s:Nat->Bool) (lo hi:Nat) (e:Ending):Prop:=
 (∃n:Nat,lo<=n/\n<hi/\s n=false/\(∀m,lo<=m->m<n->s m=true)/\e=.returned (.tuple #[n,()])) \/
 ((∀m,lo<=m->m<hi->s m=true)/\e=.returned (.tuple #[(),(6:Int)]))
def Upto (s:Nat->Bool) (lo k:Nat):Prop:=∀m,lo<=m->m<k->m<256->s m=true
theorem Wc (
 s:Nat->Bool) (A:Array Value) (HA:Hid (A=enc s)) (lo be:Nat) (w:World) (h0:lo<=1000) (h1:be<=1000):
 Calls prog 160 #[.agg A,lo,be] w fun e w'=>Qs s lo (min be 256) e/\Below w w w':=by
 have X:Hid (A.size=32):=by rw[HA.o];exact tF s
 rcases vh lo with t|t<;>by_cases N:be<=256;all_goals
  obtain⟨d,f,U,p⟩:∃d:Nat,Hid (min be 256=d)/\d<=256/\(d<=be/\(be<=d\/256<=d)):=⟨_,rfl,by omega,by omega,by omega⟩;obtain⟨p,R⟩:=p
  first|(have y:¬((256:Int)<(be:Int)):=by omega)|(have y:(256:Int)<(be:Int):=by omega)
  have V:=Lib.hid t
  first|(have T:¬0<lo:=by omega)|(have T:0<lo:=t)
  clear t;go_enter func160,ntmps160;go_wp2;go_loopw [8] (fun i wr=>∃k:Nat,lo<=k/\k<=1010/\i=.int .i64 k/\Below w w wr/\Hid (wr.heap[w.heap.size]?=some (.cells A 91))/\Hid (Upto s lo k)) (fun i _=>1020-(intOf i).toNat);case atStart =>refine⟨lo,by omega,by omega,by first|rfl|(rw[V.o];rfl),zB.alloc zL _,zH,fun m v L=>by omega⟩
  case round=>
   obtain⟨k,Q,M,rfl,j,l,u⟩:=hrel;by_cases z:k<d
   .have Z:wr.cell? (w.heap.size,k / 8)=some (.int .u8 (tD s (k / 8))):=(by rw[zC l.o,HA.o,pQ _ _ (by omega)]);have K:=Wn s (k / 8);have E:k<be:=(by omega);have J:k<256:=(by omega);by_cases v:(k:Int)%8=0/\tD s (k / 8)=255
    .obtain⟨q,r⟩:=v;have H:((k:Int)%8==0)=true:=(by simpa using q);have F:((tD s (k / 8):Int)==255)=true:=(by rw[vv];omega);have P:Hid (Upto s lo (k+8)):=fun m h1 c D=>by
      by_cases B:m<k
      .exact u.o m h1 B D
      .have:=MT r (m-k) (by omega)
       rwa [show 8*(k / 8)+(m-k)=m by omega]at this
     clear q r;go_wp2;go_roundw;case rel=>exact⟨k+8,by omega,by omega,by go_num,j,l,P⟩
     case measure=>simp[intOf];omega
    .have C:((k:Int)%8==0)=false\/(((k:Int)%8==0)=true/\((tD s (k / 8):Int)==255)=false):=by
      by_cases h1:(k:Int)%8=0
      .right;refine⟨by simpa using h1,?_⟩;rw[xf];intro c;exact v ⟨h1,by omega⟩
      .left;simpa using h1
     clear v;have G:∀W:World,Calls prog 161 #[.agg A,k] W fun e w'=>e=.returned (.bool (s k))/\Below W W w':=fun W=>(by rw[HA.o];exact io s k W (by omega) (by omega));have Y:=Lib.hid G;clear G;rcases C with O|⟨O,S⟩<;>cases I:s k;all_goals
      have h:=Lib.hid I;clear I;go_wp2_with (first
       | (refine yQ rfl 91 (.tmp 3) rfl w rfl 91 A (0,0) _ l.o setT rfl (by rw[X.o];exact setI) ?_)
       | (go_at_call 161;refine (Y.o _).mono ?_;rw[h.o];rintro e w' ⟨rfl,g⟩))
      first
       | (
        go_ret2;refine⟨zt ⟨k,by omega,?_,h.o,fun m h1 c=>u.o m (by omega) c (by omega),rfl⟩,j.trans (g.mono j.size)⟩;rw[f.o];exact z)
       | (
        go_roundw;case rel=>
         refine⟨k+1,by omega,by omega,by go_num,j.trans (g.mono j.size),(g.block _ (wQ.1 l.o).1).trans l.o,fun m h1 c D=>?_⟩;by_cases B:m=k
         .rw[B];exact h.o
         .exact u.o m h1 (by omega) D
        case measure=>simp[intOf];omega)
   .have x:¬(k<be/\k<256):=(by omega);have b:256<be->¬k<256:=(by omega);have a:be<=256->¬k<be:=by omega
    first
     | (have n:¬k<be:=a N)
     | (have n:¬k<256:=b (by omega))
    clear x b a;go_wp2;go_ret2;refine⟨zu ⟨fun m h1 c=>u.o m (by omega) ?_ ?_,rfl⟩,j⟩
    .rw[f.o]at c;omega
    .rw[f.o]at c;omega
theorem NT (s:Nat->Bool) (o p:Int) (n:Nat) (w:World) (r:0<=o) (v:o<=1000) (t:0<=p) (x:p<=1000) (y:o<=n) (z:(n:Int)<p) (A:n<256) (q:s n=false) (u:∀m:Nat,o<=m->m<n->s m=true):
 Calls prog 160 #[.agg (enc s),o,p] w fun e w'=>e=.returned (.tuple #[n,()])/\Below w w w':=by
 obtain⟨a,rfl⟩:=wd r;obtain⟨b,rfl⟩:=wd t;refine (Wc s _ rfl a b w (by omega) (by omega)).mono fun e w' ⟨g,i⟩=>⟨?_,i⟩;rcases g with⟨k,l,j,d,f,rfl⟩|⟨c,_⟩
 .obtain rfl:k=n:=by
   rcases Nat.lt_trichotomy k n with h|h|h
   .have:=u k (by omega) h;rw[d]at this;cases this
   .exact h
   .have:=f n (by omega) h;rw[q]at this;cases this
  rfl
 .have:=c n (by omega) (by omega);rw[q]at this;cases this
theorem NU (s:Nat->Bool) (j l:Int) (w:World) (n:0<=j) (q:j<=1000) (o:0<=l) (r:l<=1000) (p:∀m:Nat,j<=m->(m:Int)<l->m<256->s m=true):
 Calls prog 160 #[.agg (enc s),j,l] w fun e w'=>e=.returned (.tuple #[(),(6:Int)])/\Below w w w':=by
 obtain⟨a,rfl⟩:=wd n;obtain⟨b,rfl⟩:=wd o;refine (Wc s _ rfl a b w (by omega) (by omega)).mono fun e w' ⟨d,f⟩=>⟨?_,f⟩;rcases d with⟨k,i,g,c,h,rfl⟩|⟨_,rfl⟩
 .have:=p k (by omega) (by omega) (by omega);rw[c]at this;cases this
 .rfl
def emp : Nat->Bool:=fun _=>false
theorem Tv: #[Value.int IntKind.u8 0,Value.int IntKind.u8 0,Value.int IntKind.u8 0,Value.int IntKind.u8 0,Value.int IntKind.u8 0,Value.int IntKind.u8 0,Value.int IntKind.u8 0,Value.int IntKind.u8 0,Value.int IntKind.u8 0,Value.int IntKind.u8 0,Value.int IntKind.u8 0,Value.int IntKind.u8 0,Value.int IntKind.u8 0,Value.int IntKind.u8 0,Value.int IntKind.u8 0,Value.int IntKind.u8 0,Value.int IntKind.u8 0,Value.int IntKind.u8 0,Value.int IntKind.u8 0,Value.int IntKind.u8 0,Value.int IntKind.u8 0,Value.int IntKind.u8 0,Value.int IntKind.u8 0,Value.int IntKind.u8 0,Value.int IntKind.u8 0,Value.int IntKind.u8 0,Value.int IntKind.u8 0,Value.int IntKind.u8 0,Value.int IntKind.u8 0,Value.int IntKind.u8 0,Value.int IntKind.u8 0,Value.int IntKind.u8 0]=enc emp:=by kernel_rfl
theorem setZ: ∀w,(zeroValue 91).run prog w=.ok (.agg (enc emp)) w:=(uW (P:=prog) (t:=91) (v:=.agg (enc emp)) (n:=32) (by rw[<-Tv];kernel_rfl)).1
