import Derived.Test.YtmanoiagchpelaaGreatDoorKA5
import Derived.Laws.AppendOwn
import Derived.Deep.QuietTactic
import Derived.BigQuiet
set_option maxHeartbeats 0
set_option linter.all false
set_option maxRecDepth 100000
namespace Go.Proofs.YtmanoiagchpelaaGreatDoor
open Go.Proofs.Tryz Go.RowKit
variable {f:Fo} {k:Nat} {w:World}
abbrev xT:=@Calls.quiet_of_same
def ng (x:Int):Bool:=decide (x<0)||decide (256<=x)
def badN (f:Fo) (k:Nat):Bool:=(List.range 16).any fun i=>ng (f.nd k i)
def n9 (f:Fo) (k:Nat):Bool:=rx (encT f k) (encT tL 0) 0 48
def badT (f:Fo) (k:Nat):Bool:= !vO f k&&!n9 f k
def qa (f:Fo):Int:=if badN f 0=true then 1 else if badT f 0=true then 3 else if badN f 1=true then 1 else if badT f 1=true then 3 else if badN f 2=true then 1 else if badT f 2=true then 3 else if badN f 3=true then 1 else if badT f 3=true then 3 else 0
def nb (f:Fo) (k:Nat):Prop:=badN f k=false/\badT f k=false
theorem I4 (e:k<4) (d:∀j,j<k->nb f j) (h:badN f k=true):qa f=1:=by
 unfold qa
 match k,e with
 | 0,_=>rw[ze h]
 | 1,_=>
  have a:=d 0 (by omega);rw[a.1,a.2,zb (by simp),zb (by simp),ze h]
 | 2,_=>
  have a:=d 0 (by omega);have b:=d 1 (by omega);rw[a.1,a.2,b.1,b.2,zb (by simp),zb (by simp),zb (by simp),zb (by simp),ze h]
 | 3,_=>
  have a:=d 0 (by omega);have b:=d 1 (by omega);have c:=d 2 (by omega);rw[a.1,a.2,b.1,b.2,c.1,c.2,zb (by simp),zb (by simp),zb (by simp),zb (by simp),zb (by simp),zb (by simp),ze h]
theorem M0 (g:k<4) (d:∀j,j<k->nb f j) (e:badN f k=false) (h:badT f k=true):qa f=3:=by
 unfold qa
 match k,g with
 | 0,_=>rw[e,zb (by simp),ze h]
 | 1,_=>
  have a:=d 0 (by omega);rw[a.1,a.2,e,zb (by simp),zb (by simp),zb (by simp),ze h]
 | 2,_=>
  have a:=d 0 (by omega);have b:=d 1 (by omega);rw[a.1,a.2,b.1,b.2,e,zb (by simp),zb (by simp),zb (by simp),zb (by simp),zb (by simp),ze h]
 | 3,_=>
  have a:=d 0 (by omega);have b:=d 1 (by omega);have c:=d 2 (by omega);rw[a.1,a.2,b.1,b.2,c.1,c.2,e,zb (by simp),zb (by simp),zb (by simp),zb (by simp),zb (by simp),zb (by simp),zb (by simp),ze h]
theorem Iv (e:∀j,j<4->nb f j):qa f=0:=by unfold qa;have a:=e 0 (by omega);have b:=e 1 (by omega);have c:=e 2 (by omega);have d:=e 3 (by omega);rw[a.1,a.2,b.1,b.2,c.1,c.2,d.1,d.2,zb (by simp),zb (by simp),zb (by simp),zb (by simp),zb (by simp),zb (by simp),zb (by simp),zb (by simp)]
theorem gE {i:Nat} (a:i<16) (h:ng (f.nd k i)=true):badN f k=true:=by unfold badN;rw[wb];exact⟨i,yH.2 a,h⟩
theorem fV (h:∀i,i<16->ng (f.nd k i)=false):badN f k=false:=by
 cases a:badN f k with
 | false=>rfl
 | true=>
  unfold badN at a;rw[wb]at a;obtain⟨i,b,a⟩:=a;rw[h i (yH.1 b)]at a;cases a
theorem Gw (f g) (k j):mM (encT f k) (encT g j) 0 48:=fun i a=>by
 rw[yO,Zj f k i a,Zj g j i a];unfold uU;by_cases h:i<16
 .rw[ze h,ze h];exact⟨_,_,_,rfl,rfl⟩
 .rw[zb h,zb h];exact⟨_,_,_,rfl,rfl⟩
theorem intS: (prog.info? 3).map (·.size)=some 1:=by kernel_rfl
theorem intT: prog.underlying 3=some (.int .i64):=by kernel_rfl
theorem lz: prog.underlying 100=some (.array 16 3):=by kernel_rfl
theorem Su: jD prog 9999 100 (16*1):=Gd (d:=9998) lz intS (by kernel_rfl) (Jk (d:=9997) intT)
theorem eqSets: jD prog 9999 102 (32*1):=Gd (d:=9998) setT byteI (by kernel_rfl) (Jk (d:=9997) byteT)
theorem LR (f g) (k j) (w):(Op.equalIn 10000 104 (.agg (encT f k)) (.agg (encT g j))).run prog w=.ok (rx (encT f k) (encT g j) 0 48) w:=
 GC (d:=9999) vy (by kernel_rfl) (by decide) (by decide) rfl rfl Su eqSets _ _ w (Gw f g k j)
theorem treeZ: ∀w,(zeroValue 104).run prog w=.ok (.agg (encT tL 0)) w:=(te (P:=prog) (t:=104) (v:=.agg (encT tL 0)) (n:=48) (by kernel_rfl)).1
theorem PD (
 f) (A) (c) (HA:Hid (A=encF f)) (Hc:Hid (c=qa f)) (w):
 Calls prog 149 #[.agg A] w fun e w'=>e=.returned (.int .i64 c)/\Below w w w':=by
 have L:Hid (A.size=192):=by rw[HA.o];exact uj f
 obtain⟨Q,C⟩:=zA (encT tL 0);have HZ:Hid (∀w,(zeroValue 104).run prog w=.ok (.agg Q) w):=by rw[C.o];exact treeZ
 have K:Hid (∀(k:Nat) (W),k<4->Calls prog 76 #[.agg A,k] W fun e w'=>e=.returned (.bool (vO f k))/\Below W W w'):=fun k W U=>by rw[HA.o];exact jN f k W U
 go_enter func149,ntmps149
 go_wp2;go_loopw [6] (fun i wr=>∃k:Nat,k<=4/\i=.int .i64 k/\Hid (∀j,j<k->nb f j)/\Hid (wr.heap[w.heap.size]?=some (.cells A 106))/\Below w w wr) (fun i _=>4-(intOf i).toNat);case atStart=>exact⟨0,by omega,rfl,fun j h=>by omega,zH,zB.alloc zL _⟩
 case round=>
  obtain⟨k,U,rfl,u,F,B⟩:=hrel;by_cases d:k<4
  .have V:(k:Int)<4:=(by omega);have aa:0<=(k:Int):=(by omega);obtain⟨v,s⟩:=zA (encN f k);have H:Hid (v.size=16):=(by rw[s.o];exact Uz _ _);have M:Hid (∀j,j<v.size->A[k*48+j]?=v[j]?):=(by rw[s.o,HA.o];exact K3 f k d);obtain⟨S,G⟩:∃S:World,S=wr:=⟨_,rfl⟩;subst G;go_wp2_with (refine pZ (by kernel_rfl) 100 (.tmp 11) rfl w (k*48) rfl 106 A v (0,0) _ F.o M.o lz rfl (by rw[H.o];exact lj) ?_)
   go_loop [13] (fun i=>∃j:Nat,j<=16/\i=.int .i64 j/\Hid (∀a,a<j->ng (f.nd k a)=false)) (fun i=>16-(intOf i).toNat)
   case atStart=>exact⟨0,by omega,rfl,fun a h=>by omega⟩
   case round=>
    obtain⟨j,hj,rfl,P⟩:=hrel;by_cases n:j<16
    .have Y:(j:Int)<16:=(by omega);obtain⟨x,E⟩:=zA (f.nd k j);have R:∀W,(Instr.index 100 (.agg v) (.int .i64 j)).run prog W=.ok (.int .i64 x) W:=fun W=>
      V0 _ _ 16 .i64 v .i64 (j:Int) lz intT intS (by omega) (by omega) _ (by rw[yz,s.o,Uj f k j n,E.o];unfold uU;rw[ze n]) W
     by_cases O:x<0
     .have t:Hid (c=1):=(by rw[Hc.o];exact I4 d u.o (gE n (by rw[<-E.o];simp[ng,O])));go_wp2;go_ret;rw[t.o];exact⟨rfl,B⟩
     .by_cases X:256<=x
      .have t:Hid (c=1):=(by rw[Hc.o];exact I4 d u.o (gE n (by rw[<-E.o];simp[ng,X])));go_wp2;go_ret;rw[t.o];exact⟨rfl,B⟩
      .have J:Hid (∀a,a<j+1->ng (f.nd k a)=false):=fun a ha=>by
        by_cases e:a=j
        .rw[e,<-E.o];simp[ng,O,X]
        .exact P.o a (by omega)
       go_wp2
       go_round
       case rel=>exact⟨j+1,by omega,by go_num,J⟩
       case measure=>simp[intOf];omega
    .obtain rfl:j=16:=(by omega);have r:=za (fV P.o);obtain⟨T,N⟩:=zA (encT f k);have y:Hid (T.size=48):=(by rw[N.o];exact oY _ _);have D:Hid (∀j,j<T.size->A[k*48+j]?=T[j]?):=(by rw[N.o,HA.o];exact Uq f k d);have I:Hid (∀W,(Op.equalIn 10000 104 (.agg T) (.agg Q)).run prog W=.ok (n9 f k) W):=fun W=>(by rw[N.o,C.o];exact LR f tL k 0 W);go_wp2_with (refine yS rfl 106 (.tmp 1) rfl w rfl 106 A (0,0) _ F.o forT rfl (by rw[L.o];exact forI) ?_)
     refine (K.o k _ d).mono ?_;cases g:vO f k with
     | true=>
      rintro e w2 ⟨rfl,b⟩;have m:=za (wy b F.o);have p:=zf B b;have q:Hid (∀j,j<k+1->nb f j):=fun j Z=>by
       by_cases e:j=k
       .rw[e];exact⟨r.o,by unfold badT;rw[g];rfl⟩
       .exact u.o j (by omega)
      clear g b;go_wp2;go_roundw;case rel=>exact⟨k+1,by omega,by go_num,q,m,p⟩
      case measure=>simp[intOf];omega
     | false=>
      rintro e w2 ⟨rfl,b⟩;have m:=za (wy b F.o);have p:=zf B b;have hz:=HZ.o;have z:=I.o;cases l:n9 f k with
      | true=>
       rw[l]at z;have q:Hid (∀j,j<k+1->nb f j):=fun j Z=>by
        by_cases e:j=k
        .rw[e];exact⟨r.o,by unfold badT;rw[g,l];rfl⟩
        .exact u.o j (by omega)
       clear g b l;go_wp2_with (refine pZ (by kernel_rfl) 104 (.tmp 29) rfl w (k*48) rfl 106 A T (0,0) _ m.o D.o vy rfl (by rw[y.o];exact qT) ?_)
       go_roundw;case rel=>exact⟨k+1,by omega,by go_num,q,m,p⟩
       case measure=>simp[intOf];omega
      | false=>
       rw[l]at z;have t:Hid (c=3):=(by rw[Hc.o];exact M0 d u.o r.o (by unfold badT;rw[g,l];rfl));clear g b l;go_wp2_with (refine pZ (by kernel_rfl) 104 (.tmp 29) rfl w (k*48) rfl 106 A T (0,0) _ m.o D.o vy rfl (by rw[y.o];exact qT) ?_)
       go_ret;rw[t.o];exact⟨rfl,p⟩
  .obtain rfl:k=4:=(by omega);have t:Hid (c=0):=(by rw[Hc.o];exact Iv u.o);go_wp2;go_ret;rw[t.o];exact⟨rfl,B⟩
theorem JO (f) (w):
 Calls prog 149 #[.agg (encF f)] w fun e w'=>e=.returned (.int .i64 (qa f))/\Below w w w':=PD f _ _ rfl rfl w
def Ln (f:Fo):List Int:=(List.range 64).map fun m=>f.nd (m / 16) (m%16)
def Ls (f:Fo):List Int:=(List.range 128).map fun m=>(tN (f.hs (m / 32)) (m%32))
def uH (f:Fo):List Int:=Ln f++Ls f
theorem lm (f):(Ln f).length=64:=by simp[Ln]
theorem iO (f):(Ls f).length=128:=by simp[Ls]
theorem Zp (f):(uH f).length=192:=by simp[uH,lm,iO]
theorem Yz (f) (k i) (a:k<4) (b:i<16):(Ln f)[k*16+i]?=some (f.nd k i):=by unfold Ln;rw[xF,ui (by omega)];simp only[ks];rw[show (k*16+i) / 16=k by omega,show (k*16+i)%16=i by omega]
theorem Yy (f) (k i) (a:k<4) (b:i<32):(Ls f)[k*32+i]?=some (tN (f.hs k) i:Int):=by unfold Ls;rw[xF,ui (by omega)];simp only[ks];rw[show (k*32+i) / 32=k by omega,show (k*32+i)%32=i by omega]
theorem gT {α:Type} (l:List α) (n) (x) (h:l[n]?=some x):l.take (n+1)=l.take n++[x]:=by obtain⟨a,rfl⟩:=zJ.1 h;rw[zR a]
def setL (f:Fo) (k:Nat):List Int:=(List.range 32).map fun i=>(tN (f.hs k) i)
theorem SJ (f) (k) (d:k<4):(Ls f).take ((k+1)*32)=(Ls f).take (k*32)++setL f k:=by
 apply ww;intro i;have b:((Ls f).take (k*32)).length=k*32:=by rw[zj,iO];omega
 by_cases c:i<k*32
 .rw[zX (by omega),zI,zI,ze c,ze (by omega)]
 .rw[zy (by omega),b,zI];by_cases a:i<(k+1)*32
  .rw[ze a];obtain⟨j,rfl⟩:∃j,i=k*32+j:=⟨i-k*32,by omega⟩;rw[Yy f k j d (by omega),show k*32+j-k*32=j by omega];unfold setL;rw[xF,ui (by omega)];rfl
  .rw[zb a,yj (by simp[setL];omega)]
theorem Xu (f) (k):(setL f k).length=32:=by simp[setL]
theorem MY (h:qa f=0) (k i) (n:k<4) (o:i<16):0<=f.nd k i/\f.nd k i<=255:=by
 have b:badN f k=false:=by
  cases a:badN f k with
  | false=>rfl
  | true=>
   exfalso;unfold qa at h;by_cases e:badN f 0=true
   .rw[ze e]at h;cases h
   rw[zb e]at h;by_cases m:badT f 0=true
   .rw[ze m]at h;cases h
   rw[zb m]at h;by_cases d:badN f 1=true
   .rw[ze d]at h;cases h
   rw[zb d]at h;by_cases j:badT f 1=true
   .rw[ze j]at h;cases h
   rw[zb j]at h;by_cases c:badN f 2=true
   .rw[ze c]at h;cases h
   rw[zb c]at h;by_cases g:badT f 2=true
   .rw[ze g]at h;cases h
   rw[zb g]at h;by_cases l:badN f 3=true
   .rw[ze l]at h;cases h
   match k,n with
   | 0,_=>exact e a
   | 1,_=>exact d a
   | 2,_=>exact c a
   | 3,_=>exact l a
 have:ng (f.nd k i)=false:=by
  cases a:ng (f.nd k i) with
  | false=>rfl
  | true=>rw[gE o a]at b;cases b
 simp[ng]at this;omega
theorem SW: (prog.info? 5).map (fun i=>(i.zero,i.size,i.bytes))=some (some (.int .u8 0),1,1):=by kernel_rfl
theorem iF: prog.underlying 56=some (.slice 5):=by kernel_rfl
theorem PW (f) (A) (c) (i:Hid (A=encF f)) (j:Hid (c=qa f)) (k:(c != 0)=true) (w):
 Calls prog 107 #[.agg A] w fun e w'=>e=.returned (.tuple #[.slice none 0 0,.int .i64 c])/\Below w w w':=by
 have d:Hid (A.size=192):=by rw[i.o];exact uj f
 have b:Hid (∀W,Calls prog 149 #[.agg A] W fun e w'=>e=.returned c/\Below W W w'):=fun W=>by rw[i.o,j.o];exact JO f W
 go_enter func107,ntmps107
 go_wp2_with (refine yS rfl 106 (.tmp 1) rfl w rfl 106 A (0,0) _ (zT w _) forT rfl (by rw[d.o];exact forI) ?_)
 refine (b.o _).mono ?_;rintro e h ⟨rfl,a⟩;have g:=zf (zB.alloc zL _) a;clear a;go_wp2;go_ret2;exact⟨rfl,g⟩
def VF (f:Fo) (w:World) (e:Ending) (w':World):Prop:=
 ∃v,e=.returned (.tuple #[v,()])/\w'.ownsRow (w.heap.size+1) 5 1 v 192 (u8s (uH f))/\Below w w w'
theorem PV (
 f:Fo) (A:Array Value) (HA:Hid (A=encF f)) (hr:qa f=0) (w:World):
 Calls prog 107 #[.agg A] w (VF f w):=by
 have ak:Hid (A.size=192):=by rw[HA.o];exact uj f
 have U:=za (fun k i Z S=>MY hr k i Z S);have ac:Hid (∀W:World,Calls prog 149 #[.agg A] W fun e w'=>e=.returned ()/\Below W W w'):=fun W=>by rw[HA.o,<-hr];exact JO f W
 obtain⟨i0,S,H,O,J⟩:=xy SW;have HI:=za S;have P:=za H;have R:=za O;have I:=za J;clear S H O J hr;go_enter func107,ntmps107;go_wp2_with (refine yS rfl 106 (.tmp 1) rfl w rfl 106 A (0,0) _ (zT w _) forT rfl (by rw[ak.o];exact forI) ?_)
 refine (ac.o _).mono ?_;rintro e w1 ⟨rfl,D⟩;have T:Below w w w1:=zf (zB.alloc zL _) D;have X:Hid (w1.heap[w.heap.size]?=some (.cells A 106)):=wy D (zT w _);clear D;go_wp2;go_loopw [5,15] (fun v i wr=>∃k:Nat,k<=4/\i=.int .i64 k/\Hid (wr.ownsRow (w.heap.size+1) 5 1 v (k*16) (u8s ((Ln f).take (k*16))))/\Hid (wr.heap[w.heap.size]?=some (.cells A 106))/\Below w w wr) (fun _ i _=>4-(intOf i).toNat);case atStart=>exact⟨0,by omega,rfl,xd _ _ _ _,X,T⟩
 case round=>
  obtain⟨k,Z,rfl,HO,Y,HB⟩:=hrel;by_cases h:k<4
  .have Q:(k:Int)<4:=(by omega);have aa:(0:Int)<=(k:Int):=(by omega);obtain⟨E,B⟩:=zA (encN f k);have ai:Hid (E.size=16):=(by rw[B.o];exact Uz _ _);have ae:Hid (∀j,j<E.size->A[k*48+j]?=E[j]?):=(by rw[B.o,HA.o];exact K3 f k h);obtain⟨N,C⟩:∃N:World,N=wr:=⟨_,rfl⟩;subst C;obtain⟨F,t⟩:∃F:Value,F=u5:=⟨_,rfl⟩;subst t;go_wp2_with (refine pZ (by kernel_rfl) 100 (.tmp 20) rfl w (k*48) rfl 106 A E (0,0) _ Y.o ae.o lz rfl (by rw[ai.o];exact lj) ?_)
   go_loopw [5,22] (fun v i wr=>∃j:Nat,j<=16/\i=.int .i64 j/\Hid (wr.ownsRow (w.heap.size+1) 5 1 v (k*16+j) (u8s ((Ln f).take (k*16+j))))/\Hid (wr.heap[w.heap.size]?=some (.cells A 106))/\Below w w wr) (fun _ i _=>16-(intOf i).toNat)
   case atStart=>exact⟨0,by omega,rfl,HO,Y,HB⟩
   case round=>
    obtain⟨j,G,rfl,c,g,l⟩:=hrel;by_cases m:j<16
    .have an:(j:Int)<16:=(by omega);obtain⟨x,Hx⟩:=zA (f.nd k j);have hx:=U.o k j h m;rw[<-Hx.o]at hx;obtain⟨ax,az⟩:=hx;have au:∀W:World,(Instr.index 100 (.agg E) (.int .i64 (j:Int))).run prog W=.ok (.int .i64 x) W:=fun W=>
      V0 _ _ 16 .i64 E .i64 (j:Int) lz intT intS (by omega) (by omega) _ (by rw[yz,B.o,Uj f k j m,Hx.o];unfold uU;rw[ze m]) W
     have V:w.heap.size<wr.heap.size:=xR g.o;obtain⟨q,cq,hv,_⟩:=tV c.o;subst hv;have b:=(c.o.alloc (.cells #[.int .u8 x] 5)).lt;go_wp2_with (at_builtin;refine yI _ rfl _ _ 56 rfl (w.heap.size+1) 5 i0 (.int .u8 0) 1 1 iF HI.o P.o R.o I.o rfl (by decide) _ _ _ rfl (c.o.alloc _) ⟨wr.heap.size,0,none⟩ 1 1 [.int .u8 x] rfl rfl (fun j u y=>Z2 _ #[.int .u8 x] _ j u y) (fun u y=>by simp at y;subst y;rfl) (by unfold maxLen;omega) (by omega) (by simp;omega) ?_;intro v' p d a _)
     have n:Hid (p.ownsRow (w.heap.size+1) 5 1 v' (k*16+(j+1)) (u8s ((Ln f).take (k*16+(j+1))))):=(by rw[<-yC,gT (Ln f) (k*16+j) x (by rw[Hx.o];exact Yz f k j h m),pC];exact d);have s:Hid (p.heap[w.heap.size]?=some (.cells A 106)):=(a.block w (by simp;omega) (fun e=>by have:=(b w e.symm).1;omega)).trans (tA g.o _);have z:Below w w p:=xB (l.alloc l.size _) a (by simp;omega) (fun r hr=>by have:=(b r hr).1;omega);clear d a b;go_wp2;go_roundw;case rel=>exact⟨j+1,by omega,by go_num,n,s,z⟩
     case measure=>simp[intOf];omega
    .obtain rfl:j=16:=(by omega);go_wp2;go_roundw;case rel=>exact⟨k+1,by omega,by go_num,by rw[show (k+1)*16=k*16+16 by omega];exact c,g,l⟩
     case measure=>simp[intOf];omega
  .have aj:Hid (k=4):=(by show _=_;omega);have ap:¬(k:Int)<4:=(by omega);obtain⟨k0,M⟩:∃k0:Nat,k0=k:=⟨_,rfl⟩;subst M;have ab:Hid (wr.ownsRow (w.heap.size+1) 5 1 u5 (64+0*32) (u8s (Ln f++(Ls f).take (0*32)))):=(by have:=HO.o;rw[aj.o]at this;rw[zv (by rw[lm];omega)]at this;rw[uL,xH,yX];exact this);clear HO;obtain⟨F,t⟩:∃F:Value,F=u5:=⟨_,rfl⟩;subst t;obtain⟨N,C⟩:∃N:World,N=wr:=⟨_,rfl⟩;subst C;go_wp2;go_loopw [5,32] (fun v i wr=>∃k:Nat,k<=4/\i=.int .i64 k/\Hid (wr.ownsRow (w.heap.size+1) 5 1 v (64+k*32) (u8s (Ln f++(Ls f).take (k*32))))/\Hid (wr.heap[w.heap.size]?=some (.cells A 106))/\Below w w wr) (fun _ i _=>4-(intOf i).toNat);case atStart=>exact⟨0,by omega,rfl,ab,Y,HB⟩
   case round=>
    obtain⟨k,Z,rfl,c,g,l⟩:=hrel;by_cases h:k<4
    .have Q:(k:Int)<4:=(by omega);have aa:(0:Int)<=(k:Int):=(by omega);have V:w.heap.size<wr.heap.size:=xR g.o;have al:Hid (∀(j:Nat) (u:Value),(u8s (setL f k))[j]?=some u->wr.cell? ((⟨w.heap.size,k*48+16,none⟩:Addr).add j)=some u):=fun j u y=>(by have G:=(zJ.1 y).1;rw[uo,Xu]at G;have K:(⟨w.heap.size,k*48+16,none⟩:Addr).add j=⟨w.heap.size,k*48+16+j,none⟩:=(by unfold Addr.add;split<;>simp_all);rw[K,zC g.o,HA.o,Vx f k h j (by rw[tP];exact G),pY _ _ G,<-y];unfold u8s setL;rw[xF,xF,ui G];rfl);obtain⟨q,cq,hv,_⟩:=tV c.o;subst hv;have b:=c.o.lt;go_wp2_with (at_builtin;refine yI _ rfl _ _ 56 rfl (w.heap.size+1) 5 i0 (.int .u8 0) 1 1 iF HI.o P.o R.o I.o rfl (by decide) _ _ _ rfl c.o ⟨w.heap.size,k*48+16,none⟩ 32 32 (u8s (setL f k)) rfl (by rw[uo,Xu]) al.o (mG _) (by unfold maxLen;omega) (by omega) (by omega) ?_;intro v' p d a _)
     have n:Hid (p.ownsRow (w.heap.size+1) 5 1 v' (64+(k+1)*32) (u8s (Ln f++(Ls f).take ((k+1)*32)))):=(by rw[SJ f k h,<-zP,pC,show 64+(k+1)*32=64+k*32+32 by omega];exact d);have s:Hid (p.heap[w.heap.size]?=some (.cells A 106)):=(a.block w (by omega) (fun e=>by have:=(b w e.symm).1;omega)).trans g.o;have z:Below w w p:=xB l a (by omega) (fun r hr=>by have:=(b r hr).1;omega);clear d a b;go_wp2;go_roundw;case rel=>exact⟨k+1,by omega,by go_num,n,s,z⟩
     case measure=>simp[intOf];omega
    .obtain rfl:k=4:=(by omega);have L:Hid (wr.ownsRow (w.heap.size+1) 5 1 u5 192 (u8s (uH f))):=(by have:=c.o;rw[zv (by rw[iO];omega)]at this;exact this);clear c;go_wp2;go_ret2;exact⟨_,rfl,L.o,l⟩
theorem K4 (f) (a:qa f=0) (w):Calls prog 107 #[.agg (encF f)] w (VF f w):=PV f _ rfl a w
def f1 : Fo:=⟨fun k j=>if k=0/\j=0 then 40 else 0,fun _=>emp⟩
def f2 : Fo:=⟨fun k j=>if k=0/\j=0 then 40 else 0,fun k=>if k=0 then ins (ins emp 40) 50 else emp⟩
section
variable {P : Program}
theorem U2 (w) (dT sT ty elem) (k) (g o dLen dCap) (a) (sLen sCap) (cur) (t) (cs)
 (m:P.underlying dT=some (.slice elem)) (l:(P.info? elem).map (·.size)=some k)
 (n:w.heap[g]?=some (.cells cur t)) (p:cs.length=Nat.min sLen dLen*k)
 (f:∀j v,cs[j]?=some v->w.cell? (a.add j)=some v) (h:o+cs.length<=cur.size) (q:∀v∈cs,v.oneCell'=true):
 (Builtin.copy_ #[dT,sT] ty #[.slice (some ⟨g,o,none⟩) dLen dCap,.slice (some a) sLen sCap]).run P w =
  .ok (goInt (Nat.min sLen dLen)) (w.setRow g (cur.toList.take o++cs++cur.toList.drop (o+cs.length)).toArray):=by
 have d:=sp (P:=P) w a cs f;have b:=vG P g o t cs 0 cur w n (by simpa using h) q;cases c:P.info? elem with
 | none=>simp[c]at l
 | some i=>
  have e:i.size=k:=by simpa[c]using l
  rw[p]at d;simp only[vC]at b;simp[Builtin.copy_,vE m,Builtin.lenOf,Builtin.firstCells,sizeOf,typeInfo,c,e,d,b]
end
theorem rowT: prog.underlying 107=some (.slice 187):=by kernel_rfl
theorem ji: (prog.info? 187).map (fun i=>(i.zero,i.size,i.bytes))=some (some (.agg #[(),()]),2,16):=by kernel_rfl
theorem rowS: (prog.info? 187).map (·.size)=some 2:=by kernel_rfl
theorem Zo (l):∀v∈wY l,v.oneCell'=true:=by intro v a;unfold wY at a;rw[vA]at a;obtain⟨x,_,b⟩:=a;simp at b;rcases b with rfl|rfl<;>rfl
def no (B:Nat) (l:List (Int×Int)) (w:World) (e:Ending) (w':World):Prop:=
 ∃v,e=.returned v/\w'.ownsRow B 187 2 v l.length (wY l)/\Below B w w'/\w.heap.size<=w'.heap.size
theorem Kk (v) (l) (w) (h:wh w v 2 l.length (wY l)) (T:l.length<=1000000):
 Calls prog 130 #[v] w (no w l w):=by
 obtain⟨N,H,m,p,q⟩:=xy ji;have P:=za H;have C:=za m;have D:=za p;have A:=za q;clear H m p q;obtain⟨n,e⟩:=zA l.length;obtain⟨a,c,O,B⟩:∃a c,v=.slice a n c/\Hid (∀d,a=some d->∀j u,(wY l)[j]?=some u->w.cell? (d.add j)=some u)/\(a=none->n=0):=by
  obtain⟨S,⟨I,a,c,rfl⟩|⟨g,o,c,rfl,Q⟩⟩:=h
  .refine⟨a,c,by rw[e.o,I],fun d _ j u x=>?_,fun _=>by rw[e.o];exact I⟩;have:=(zJ.1 x).1;omega
  .refine⟨_,c,by rw[e.o],fun d J j u x=>?_,fun h=>by cases h⟩;cases J;have s:(⟨g,o,none⟩:Addr).add j=⟨g,o+j,none⟩:=(by unfold Addr.add;split<;>simp_all);rw[s];exact Q j u x
 obtain⟨B,F⟩:=B;subst O;have i:(wY l).length=n*2:=by rw[rN,<-e.o]
 have t:=za i;rw[<-e.o]at T;clear i h;unfold no;rw[<-e.o];have M:∀(w) (a) (n c y z),(binOp .eql 107 (.slice a n c) (.slice none y z)).run prog w=.ok (.bool a.isNone) w:=fun w a n c y z=>Lib.run_eql_slice_nil w _ _ a n c y z rowT;cases a with
 | none=>
  have E:=za (F rfl);clear F;go_enter func130,ntmps130;go_wp2;go_ret;exact⟨_,rfl,⟨t.o,zr ⟨rfl,E.o⟩⟩,zB,zL⟩
 | some d=>
  clear F;go_enter func130,ntmps130;go_wp2_with (at_builtin;refine yI _ rfl _ _ 107 rfl w.heap.size 187 N (.agg #[(),()]) 2 16 rowT P.o C.o D.o A.o rfl (by decide) _ _ _ rfl (uW w #[] 0 zL zZ rfl) d n c (wY l) rfl ?qc1 ?qc2 ?qc3 ?qc4 ?qc5 ?qc6 ?_)
  case qc1=>exact t.o
  case qc2 =>intro j u x;have:=B.o d rfl j u x;rw[wN _ _ _ (zG this)];exact this
  case qc3=>exact Zo l
  case qc4=>unfold maxLen;omega
  case qc5=>omega
  case qc6=>simp
  intro K R f b r;have G:=((x9 _ w).alloc zL _).grown b (by simp) (by intro k L;simp[Value.ownBlock]at L;omega);clear b r;go_wp2;go_ret;exact⟨K,rfl,f,G,G.size⟩
theorem lG {B:Nat} {a:World} (h:Below B a w) (n):Below B a (w.drewN n):=⟨h.os,h.tape,h.output,h.size,h.block⟩
theorem Sg: (prog.info? 3).map (fun i=>(i.zero,i.size,i.bytes))=some (some (.int .i64 0),1,8):=by kernel_rfl
theorem intsT: prog.underlying 33=some (.slice 3):=by kernel_rfl
def sg (s:Int):Int:=if s<=0 then 0 else (s-1) / 64+1
theorem VS (s) (w) (b: -9223372036854775808<=s) (c:s<=9223372036854775807):
 Calls prog 87 #[.int .i64 s] w fun e w'=>e=.returned (.int .i64 (sg s))/\w=w':=by
 by_cases h:s<=0
 .have a:Hid (sg s=0):=by show _=_;unfold sg;rw[ze h]
  go_enter func87,ntmps87
  go_wp2;go_ret;exact⟨tU a.o.symm,rfl⟩
 .have a:Hid (sg s=(s-1) / 64+1):=by show _=_;unfold sg;rw[zb h]
  go_enter func87,ntmps87
  go_wp2;go_ret;exact⟨tU a.o.symm,rfl⟩
def vL (k m u g s l up:Int) (P:List Int):Int:=
 if k=0 then (if m=0/\u=0/\g=0/\s=0/\l=0/\up=0/\P.length=0 then 0 else 3)
 else if k<0\/3<k\/m<0\/511<m\/u<0\/255<u\/g<0\/255<g\/l<0\/200<l then 1
 else if s<0\/512<s then 2
 else if (k=2/\(up<1\/32<up))\/(k≠2/\up≠0) then 12
 else if tY P≠0 then tY P
 else if P.length≠sg s then 3 else 0
theorem NI (k m u g s l up) (v) (P) (w) (h:vT w v P) (I:P.length<=1000000) (J:k=0):
 Calls prog 150 #[.agg #[.int .i64 k,.int .i64 m,.int .i64 u,.int .i64 g,.int .i64 s,.int .i64 l,.int .i64 up,v]] w fun e w'=>e=.returned (.int .i64 (vL k m u g s l up P))/\Below w w w':=by
 obtain⟨N,y⟩:=zA P.length;obtain⟨p,B,i⟩:∃p B,v=.slice p N B:=by
  rw[y.o];obtain⟨_,⟨C,D,E,rfl⟩|⟨g,o,z,rfl,q⟩⟩:=h
  .exact⟨D,E,by rw[C]⟩
  .exact⟨_,z,rfl⟩
 subst i;have d:Hid (∀o,Below w w (w.alloc o)):=fun o=>zB.alloc zL o;have H:Hid (∀o,vT (w.alloc o) (p,N,B) P):=fun o=>wh.below h (d.o o);rw[<-y.o]at I;clear h;subst J;by_cases x:m=0
 rotate_left
 .have j:(m==0)=false:=by simpa using x
  have n:(m != 0)=true:=by simpa using x
  have c:=za x;clear x;have a:Hid (vL 0 m u g s l up P=3):=by show _=_;unfold vL;rw[ze rfl,zb (fun q=>c.o (by omega))]
  go_enter xx,xj
  go_wp2;go_ret;exact⟨tU a.o.symm,d.o _⟩
 subst x;by_cases i:u=0
 rotate_left
 .have j:(u==0)=false:=by simpa using i
  have n:(u != 0)=true:=by simpa using i
  have c:=za i;clear i;have a:Hid (vL 0 0 u g s l up P=3):=by show _=_;unfold vL;rw[ze rfl,zb (fun q=>c.o (by omega))]
  go_enter xx,xj
  go_wp2;go_ret;exact⟨tU a.o.symm,d.o _⟩
 subst i;by_cases r:g=0
 rotate_left
 .have j:(g==0)=false:=by simpa using r
  have n:(g != 0)=true:=by simpa using r
  have c:=za r;clear r;have a:Hid (vL 0 0 0 g s l up P=3):=by show _=_;unfold vL;rw[ze rfl,zb (fun q=>c.o (by omega))]
  go_enter xx,xj
  go_wp2;go_ret;exact⟨tU a.o.symm,d.o _⟩
 subst r;by_cases t:s=0
 rotate_left
 .have j:(s==0)=false:=by simpa using t
  have n:(s != 0)=true:=by simpa using t
  have c:=za t;clear t;have a:Hid (vL 0 0 0 0 s l up P=3):=by show _=_;unfold vL;rw[ze rfl,zb (fun q=>c.o (by omega))]
  go_enter xx,xj
  go_wp2;go_ret;exact⟨tU a.o.symm,d.o _⟩
 subst t;by_cases I:l=0
 rotate_left
 .have j:(l==0)=false:=by simpa using I
  have n:(l != 0)=true:=by simpa using I
  have c:=za I;clear I;have a:Hid (vL 0 0 0 0 0 l up P=3):=by show _=_;unfold vL;rw[ze rfl,zb (fun q=>c.o (by omega))]
  go_enter xx,xj
  go_wp2;go_ret;exact⟨tU a.o.symm,d.o _⟩
 subst I;by_cases b:up=0
 rotate_left
 .have j:(up==0)=false:=by simpa using b
  have n:(up != 0)=true:=by simpa using b
  have c:=za b;clear b;have a:Hid (vL 0 0 0 0 0 0 up P=3):=by show _=_;unfold vL;rw[ze rfl,zb (fun q=>c.o (by omega))]
  go_enter xx,xj
  go_wp2;go_ret;exact⟨tU a.o.symm,d.o _⟩
 subst b;by_cases A:N=0
 .have a:Hid (vL 0 0 0 0 0 0 0 P=0):=by show _=_;unfold vL;rw[ze rfl,ze (by rw[<-y.o];omega)]
  subst A;go_enter xx,xj;go_wp2;go_ret;exact⟨tU a.o.symm,d.o _⟩
 .have a:Hid (vL 0 0 0 0 0 0 0 P=3):=by show _=_;unfold vL;rw[ze rfl,zb (by rw[<-y.o];omega)]
  have f:¬(N:Int)=0:=by omega
  have j:((N:Int)==0)=false:=by simpa using f
  have n:((N:Int) != 0)=true:=by simpa using f
  have G:=za f;have F:=za A;clear A f;go_enter xx,xj;go_wp2;go_ret;exact⟨tU a.o.symm,d.o _⟩
theorem PF (k m u g s l up) (v) (P) (w) (h:vT w v P) (L:P.length<=1000000) (J:¬k=0) (K:k<0\/3<k\/m<0\/511<m\/u<0\/255<u\/g<0\/255<g\/l<0\/200<l):
 Calls prog 150 #[.agg #[.int .i64 k,.int .i64 m,.int .i64 u,.int .i64 g,.int .i64 s,.int .i64 l,.int .i64 up,v]] w fun e w'=>e=.returned (.int .i64 (vL k m u g s l up P))/\Below w w w':=by
 have _:=L;obtain⟨N,j⟩:=zA P.length;obtain⟨p,f,r⟩:∃p f,v=.slice p N f:=by
  rw[j.o];obtain⟨_,⟨q,t,n,rfl⟩|⟨g,o,d,rfl,K⟩⟩:=h
  .exact⟨t,n,by rw[q]⟩
  .exact⟨_,d,rfl⟩
 subst r;have c:Hid (∀o,Below w w (w.alloc o)):=fun o=>zB.alloc zL o;have H:Hid (∀o,vT (w.alloc o) (p,N,f) P):=fun o=>wh.below h (c.o o);rw[<-j.o]at L;clear h;have i:=za K;clear K;have x:(k==0)=false:=by simpa using J
 have F:(k != 0)=true:=by simpa using J
 by_cases n:k<0
 .have b:=za J;clear J;have a:Hid (vL k m u g s l up P=1):=by show _=_;unfold vL;rw[zb b.o,ze (by omega)]
  go_enter xx,xj
  go_wp2;go_ret;exact⟨tU a.o.symm,c.o _⟩
 by_cases B:3<k
 .have b:=za J;clear J;have a:Hid (vL k m u g s l up P=1):=by show _=_;unfold vL;rw[zb b.o,ze (by omega)]
  go_enter xx,xj
  go_wp2;go_ret;exact⟨tU a.o.symm,c.o _⟩
 by_cases C:m<0
 .have b:=za J;clear J;have a:Hid (vL k m u g s l up P=1):=by show _=_;unfold vL;rw[zb b.o,ze (by omega)]
  go_enter xx,xj
  go_wp2;go_ret;exact⟨tU a.o.symm,c.o _⟩
 by_cases D:511<m
 .have b:=za J;clear J;have a:Hid (vL k m u g s l up P=1):=by show _=_;unfold vL;rw[zb b.o,ze (by omega)]
  go_enter xx,xj
  go_wp2;go_ret;exact⟨tU a.o.symm,c.o _⟩
 by_cases I:u<0
 .have b:=za J;clear J;have a:Hid (vL k m u g s l up P=1):=by show _=_;unfold vL;rw[zb b.o,ze (by omega)]
  go_enter xx,xj
  go_wp2;go_ret;exact⟨tU a.o.symm,c.o _⟩
 by_cases E:255<u
 .have b:=za J;clear J;have a:Hid (vL k m u g s l up P=1):=by show _=_;unfold vL;rw[zb b.o,ze (by omega)]
  go_enter xx,xj
  go_wp2;go_ret;exact⟨tU a.o.symm,c.o _⟩
 by_cases G:g<0
 .have b:=za J;clear J;have a:Hid (vL k m u g s l up P=1):=by show _=_;unfold vL;rw[zb b.o,ze (by omega)]
  go_enter xx,xj
  go_wp2;go_ret;exact⟨tU a.o.symm,c.o _⟩
 by_cases A:255<g
 .have b:=za J;clear J;have a:Hid (vL k m u g s l up P=1):=by show _=_;unfold vL;rw[zb b.o,ze (by omega)]
  go_enter xx,xj
  go_wp2;go_ret;exact⟨tU a.o.symm,c.o _⟩
 by_cases y:l<0
 .have b:=za J;clear J;have a:Hid (vL k m u g s l up P=1):=by show _=_;unfold vL;rw[zb b.o,ze (by omega)]
  go_enter xx,xj
  go_wp2;go_ret;exact⟨tU a.o.symm,c.o _⟩
 by_cases z:200<l
 .have b:=za J;clear J;have a:Hid (vL k m u g s l up P=1):=by show _=_;unfold vL;rw[zb b.o,ze (by omega)]
  go_enter xx,xj
  go_wp2;go_ret;exact⟨tU a.o.symm,c.o _⟩
 exact zY i.o (by omega)
theorem MZ (k m u g s l up) (v) (P) (w) (h:vT w v P) (C:P.length<=1000000) (A:¬k=0) (D:¬k<0) (E:¬3<k) (F:¬m<0) (G:¬511<m) (I:¬u<0) (J:¬255<u) (K:¬g<0) (L:¬255<g) (M:¬l<0) (O:¬200<l) (B:s<0\/512<s):
 Calls prog 150 #[.agg #[.int .i64 k,.int .i64 m,.int .i64 u,.int .i64 g,.int .i64 s,.int .i64 l,.int .i64 up,v]] w fun e w'=>e=.returned (.int .i64 (vL k m u g s l up P))/\Below w w w':=by
 have _:=C;obtain⟨N,i⟩:=zA P.length;obtain⟨p,d,q⟩:∃p d,v=.slice p N d:=by
  rw[i.o];obtain⟨_,⟨n,r,D,rfl⟩|⟨g,o,b,rfl,B⟩⟩:=h
  .exact⟨r,D,by rw[n]⟩
  .exact⟨_,b,rfl⟩
 subst q;have c:Hid (∀o,Below w w (w.alloc o)):=fun o=>zB.alloc zL o;have H:Hid (∀o,vT (w.alloc o) (p,N,d) P):=fun o=>wh.below h (c.o o);rw[<-i.o]at C;clear h;have f:=za B;clear B;have t:(k==0)=false:=by simpa using A
 have z:(k != 0)=true:=by simpa using A
 have j:=za A;clear A;by_cases y:s<0
 .have a:Hid (vL k m u g s l up P=2):=by show _=_;unfold vL;rw[zb j.o,zb (by omega),ze (by omega)]
  go_enter xx,xj
  go_wp2;go_ret;exact⟨tU a.o.symm,c.o _⟩
 by_cases x:512<s
 .have a:Hid (vL k m u g s l up P=2):=by show _=_;unfold vL;rw[zb j.o,zb (by omega),ze (by omega)]
  go_enter xx,xj
  go_wp2;go_ret;exact⟨tU a.o.symm,c.o _⟩
 exact zY f.o (by omega)
theorem PE (k m u g s l up) (v) (P) (w) (h:vT w v P) (L:P.length<=1000000) (J:¬k=0) (M:¬k<0) (O:¬3<k) (Q:¬m<0) (R:¬511<m) (S:¬u<0) (T:¬255<u) (U:¬g<0) (V:¬255<g) (W:¬l<0) (X:¬200<l) (Y:¬s<0) (Z:¬512<s) (K:(k=2/\(up<1\/32<up))\/(k≠2/\up≠0)):
 Calls prog 150 #[.agg #[.int .i64 k,.int .i64 m,.int .i64 u,.int .i64 g,.int .i64 s,.int .i64 l,.int .i64 up,v]] w fun e w'=>e=.returned (.int .i64 (vL k m u g s l up P))/\Below w w w':=by
 have _:=L;obtain⟨N,t⟩:=zA P.length;obtain⟨p,r,z⟩:∃p r,v=.slice p N r:=by
  rw[t.o];obtain⟨_,⟨y,A,M,rfl⟩|⟨g,o,j,rfl,K⟩⟩:=h
  .exact⟨A,M,by rw[y]⟩
  .exact⟨_,j,rfl⟩
 subst z;have i:Hid (∀o,Below w w (w.alloc o)):=fun o=>zB.alloc zL o;have H:Hid (∀o,vT (w.alloc o) (p,N,r) P):=fun o=>wh.below h (i.o o);rw[<-t.o]at L;clear h;have C:(k==0)=false:=by simpa using J
 have G:(k != 0)=true:=by simpa using J
 have n:=za J;clear J;have f:=za K;clear K;by_cases a:k=2
 .subst a;by_cases D:up<1
  .have c:Hid (vL 2 m u g s l up P=12):=(by show _=_;unfold vL;rw[zb n.o,zb (by omega),zb (by omega),ze (zr (by omega))]);go_enter xx,xj;go_wp2;go_ret;exact⟨tU c.o.symm,i.o _⟩
  by_cases I:32<up
  .have c:Hid (vL 2 m u g s l up P=12):=(by show _=_;unfold vL;rw[zb n.o,zb (by omega),zb (by omega),ze (zr (by omega))]);go_enter xx,xj;go_wp2;go_ret;exact⟨tU c.o.symm,i.o _⟩
  exact zY f.o (by omega)
 .have x:(k==2)=false:=by simpa using a
  have B:(k != 2)=true:=by simpa using a
  have d:=za a;clear a;by_cases b:up=0
  .exact zY f.o (by have:=d.o;omega)
  .have F:(up==0)=false:=(by simpa using b);have E:(up != 0)=true:=(by simpa using b);have q:=za b;clear b;have c:Hid (vL k m u g s l up P=12):=(by show _=_;unfold vL;rw[zb n.o,zb (by omega),zb (by omega),ze (zu ⟨d.o,q.o⟩)]);go_enter xx,xj;go_wp2;go_ret;exact⟨tU c.o.symm,i.o _⟩
theorem Gs (k m u g s l up) (v) (P) (w) (h:vT w v P) (S:P.length<=1000000) (Q:¬k=0) (R:¬k<0) (T:¬3<k) (U:¬m<0) (V:¬511<m) (X:¬u<0) (Y:¬255<u) (Z:¬g<0) (c7:¬255<g) (c8:¬l<0) (c9:¬200<l) (d0:¬s<0) (d1:¬512<s) (O:k=2) (e0:¬up<1) (e1:¬32<up):
 Calls prog 150 #[.agg #[.int .i64 k,.int .i64 m,.int .i64 u,.int .i64 g,.int .i64 s,.int .i64 l,.int .i64 up,v]] w fun e w'=>e=.returned (.int .i64 (vL k m u g s l up P))/\Below w w w':=by
 obtain⟨N,i⟩:=zA P.length;obtain⟨p,z,D⟩:∃p z,v=.slice p N z:=by
  rw[i.o];obtain⟨_,⟨A,F,R,rfl⟩|⟨g,o,x,rfl,c⟩⟩:=h
  .exact⟨F,R,by rw[A]⟩
  .exact⟨_,x,rfl⟩
 subst D;have q:Hid (∀o,Below w w (w.alloc o)):=fun o=>zB.alloc zL o;have H:Hid (∀o,vT (w.alloc o) (p,N,z) P):=fun o=>wh.below h (q.o o);rw[<-i.o]at S;clear h;subst O;have G:((2:Int)==0)=false:=by simp
 have K:((2:Int) != 0)=true:=by simp
 have E:=za Q;clear Q;have y:Hid (vL 2 m u g s l up P=if tY P≠0 then tY P else if P.length≠sg s then 3 else 0):=by show _=_;unfold vL;rw[zb E.o,zb (by omega),zb (by omega),zb (by omega)]
 obtain⟨r,d⟩:=zD (tY P);by_cases b:r=0
 .subst b;obtain⟨t,f⟩:=zD (sg s);have n:Hid (∀W,Calls prog 87 #[s] W fun e w'=>e=.returned t/\w'=W):=fun W=>by have:=VS s W (by omega) (by omega);rw[f.o]at this;exact this.mono fun _ _ h=>⟨h.1,h.2.symm⟩
  by_cases a:(N:Int)=t
  .have j:Hid (vL 2 m u g s l up P=0):=(by show _=_;rw[y.o,zb (fun c=>c d.o),zb (fun c=>c (by rw[<-i.o,f.o];exact a))]);subst a;go_enter xx,xj;go_wp2_with fail
   refine (Zm _ P _ (H.o _) (by rw[<-i.o];omega)).mono ?_;rw[d.o];rintro e w' ⟨rfl,rfl⟩;go_wp2_with fail
   go_quiet ((go_at_call 87;exact xT (n.o _)))
   go_wp2;go_ret;exact⟨tU j.o.symm,below_drewN (q.o _) _⟩
  .have j:Hid (vL 2 m u g s l up P=3):=(by show _=_;rw[y.o,zb (fun c=>c d.o),ze (fun c=>a (by rw[<-i.o,f.o]at c;exact c))]);have L:(N==t)=false:=(by simpa using a);have M:(N != t)=true:=(by simpa using a);have C:=za a;clear a;go_enter xx,xj;go_wp2_with fail
   refine (Zm _ P _ (H.o _) (by rw[<-i.o];omega)).mono ?_;rw[d.o];rintro e w' ⟨rfl,rfl⟩;go_wp2_with fail
   go_quiet ((go_at_call 87;exact xT (n.o _)))
   go_wp2;go_ret;exact⟨tU j.o.symm,below_drewN (q.o _) _⟩
 .have j:Hid (vL 2 m u g s l up P=r):=by show _=_;rw[y.o,ze (by rw[d.o];exact b),d.o]
  have I:(r==0)=false:=by simpa using b
  have J:(r != 0)=true:=by simpa using b
  have B:=za b;clear b;go_enter xx,xj;go_wp2_with fail
  refine (Zm _ P _ (H.o _) (by rw[<-i.o];omega)).mono ?_;rw[d.o];rintro e w' ⟨rfl,rfl⟩;go_wp2;go_ret;exact⟨tU j.o.symm,q.o _⟩
theorem NJ (k m u g s l up) (v) (P) (w) (h:vT w v P) (X:P.length<=1000000) (T:¬k=0) (V:¬k<0) (Y:¬3<k) (Z:¬m<0) (c3:¬511<m) (c4:¬u<0) (c5:¬255<u) (c6:¬g<0) (c7:¬255<g) (c8:¬l<0) (c9:¬200<l) (d0:¬s<0) (d1:¬512<s) (S:¬k=2) (U:up=0):
 Calls prog 150 #[.agg #[.int .i64 k,.int .i64 m,.int .i64 u,.int .i64 g,.int .i64 s,.int .i64 l,.int .i64 up,v]] w fun e w'=>e=.returned (.int .i64 (vL k m u g s l up P))/\Below w w w':=by
 obtain⟨N,i⟩:=zA P.length;obtain⟨p,A,F⟩:∃p A,v=.slice p N A:=by
  rw[i.o];obtain⟨_,⟨C,I,V,rfl⟩|⟨g,o,x,rfl,c⟩⟩:=h
  .exact⟨I,V,by rw[C]⟩
  .exact⟨_,x,rfl⟩
 subst F;have q:Hid (∀o,Below w w (w.alloc o)):=fun o=>zB.alloc zL o;have H:Hid (∀o,vT (w.alloc o) (p,N,A) P):=fun o=>wh.below h (q.o o);rw[<-i.o]at X;clear h;subst U;have K:(k==0)=false:=by simpa using T
 have O:(k != 0)=true:=by simpa using T
 have G:=za T;clear T;have B:(k==2)=false:=by simpa using S
 have J:(k != 2)=true:=by simpa using S
 have z:=za S;clear S;have y:Hid (vL k m u g s l 0 P=if tY P≠0 then tY P else if P.length≠sg s then 3 else 0):=by show _=_;unfold vL;rw[zb G.o,zb (by omega),zb (by omega),zb (by have:=z.o;omega)]
 obtain⟨r,d⟩:=zD (tY P);by_cases b:r=0
 .subst b;obtain⟨t,f⟩:=zD (sg s);have n:Hid (∀W,Calls prog 87 #[s] W fun e w'=>e=.returned t/\w'=W):=fun W=>by have:=VS s W (by omega) (by omega);rw[f.o]at this;exact this.mono fun _ _ h=>⟨h.1,h.2.symm⟩
  by_cases a:(N:Int)=t
  .have j:Hid (vL k m u g s l 0 P=0):=(by show _=_;rw[y.o,zb (fun c=>c d.o),zb (fun c=>c (by rw[<-i.o,f.o];exact a))]);subst a;go_enter xx,xj;go_wp2_with fail
   refine (Zm _ P _ (H.o _) (by rw[<-i.o];omega)).mono ?_;rw[d.o];rintro e w' ⟨rfl,rfl⟩;go_wp2_with fail
   go_quiet ((go_at_call 87;exact xT (n.o _)))
   go_wp2;go_ret;exact⟨tU j.o.symm,below_drewN (q.o _) _⟩
  .have j:Hid (vL k m u g s l 0 P=3):=(by show _=_;rw[y.o,zb (fun c=>c d.o),ze (fun c=>a (by rw[<-i.o,f.o]at c;exact c))]);have Q:(N==t)=false:=(by simpa using a);have R:(N != t)=true:=(by simpa using a);have E:=za a;clear a;go_enter xx,xj;go_wp2_with fail
   refine (Zm _ P _ (H.o _) (by rw[<-i.o];omega)).mono ?_;rw[d.o];rintro e w' ⟨rfl,rfl⟩;go_wp2_with fail
   go_quiet ((go_at_call 87;exact xT (n.o _)))
   go_wp2;go_ret;exact⟨tU j.o.symm,below_drewN (q.o _) _⟩
 .have j:Hid (vL k m u g s l 0 P=r):=by show _=_;rw[y.o,ze (by rw[d.o];exact b),d.o]
  have L:(r==0)=false:=by simpa using b
  have M:(r != 0)=true:=by simpa using b
  have D:=za b;clear b;go_enter xx,xj;go_wp2_with fail
  refine (Zm _ P _ (H.o _) (by rw[<-i.o];omega)).mono ?_;rw[d.o];rintro e w' ⟨rfl,rfl⟩;go_wp2;go_ret;exact⟨tU j.o.symm,q.o _⟩
theorem UH (k m u g s l up) (v) (P) (w) (h:vT w v P) (i:P.length<=1000000):
 Calls prog 150 #[.agg #[.int .i64 k,.int .i64 m,.int .i64 u,.int .i64 g,.int .i64 s,.int .i64 l,.int .i64 up,v]] w fun e w'=>e=.returned (.int .i64 (vL k m u g s l up P))/\Below w w w':=by
 by_cases a:k=0
 .exact NI k m u g s l up v P w h i a
 by_cases d:k<0\/3<k\/m<0\/511<m\/u<0\/255<u\/g<0\/255<g\/l<0\/200<l
 .exact PF k m u g s l up v P w h i a d
 by_cases f:s<0\/512<s
 .exact MZ k m u g s l up v P w h i a (by omega) (by omega) (by omega) (by omega) (by omega) (by omega) (by omega) (by omega) (by omega) (by omega) f
 by_cases c:(k=2/\(up<1\/32<up))\/(k≠2/\up≠0)
 .exact PE k m u g s l up v P w h i a (by omega) (by omega) (by omega) (by omega) (by omega) (by omega) (by omega) (by omega) (by omega) (by omega) (by omega) (by omega) c
 by_cases b:k=2
 .exact Gs k m u g s l up v P w h i a (by omega) (by omega) (by omega) (by omega) (by omega) (by omega) (by omega) (by omega) (by omega) (by omega) (by omega) (by omega) b (by omega) (by omega)
 .exact NJ k m u g s l up v P w h i a (by omega) (by omega) (by omega) (by omega) (by omega) (by omega) (by omega) (by omega) (by omega) (by omega) (by omega) (by omega) b (by omega)
def exp1 (x:Int×Int):List Int:=(List.range x.2.toNat).map fun i:Nat=>if x.1=0 then 0 else x.1+i
def badX (x:Int×Int):Bool:=decide (x.1<0)||decide (256<=x.1)||decide (x.2<1)||decide (8<x.2)||(decide (0<x.1)&&decide (256<x.1+x.2))
def ptsR : List (Int×Int)->List Int->List Int×Int
 | [],acc=>(acc,0)
 | x::r,acc=>if badX x then ([],1) else if 8<acc.length+(exp1 x).length then ([],2) else ptsR r (acc++exp1 x)
theorem W9 (x) (j:Nat) (b:(j:Int)<x.2):(exp1 x).take (j+1)=(exp1 x).take j++[if x.1=0 then 0 else x.1+j]:=by
 have a:j<(exp1 x).length:=by simp[exp1];omega
 rw[<-zR a]
 congr 2
 simp[exp1]
theorem J3 {w':World} {base:Nat} {e e':TypeId} {size:Nat} {v:Value} {n:Nat} {xs:List Value} {g:Nat} {cs:Array Value} {fr:Nat×Nat} (h:w.ownsRow base e size v n xs) (k:w.grownBy w' v.ownBlock)
 (i:w.heap[g]?=some (.cells cs e' fr)) (j:e≠e'):w'.heap[g]?=some (.cells cs e' fr):=by
 rw[k.block g (xR i) ?_]
 .exact i
 .intro a;obtain⟨_,⟨rfl,_⟩|⟨f,d,b,rfl,_,c,_⟩⟩:=h
  .cases a
  .cases a;rw[c]at i;injection i with i;injection i with _ i _;exact j i
def PtsRes (l:List (Int×Int)) (w:World) (e:Ending) (w':World):Prop:=
 ((ptsR l []).2=0/\∃v,e=.returned (.tuple #[v,()])/\w'.ownsRow w 3 1 v (ptsR l []).1.length (ints (ptsR l []).1)/\Below w w w') \/
 ((ptsR l []).2≠0/\e=.returned (.tuple #[.slice none 0 0,.int .i64 (ptsR l []).2])/\Below w w w')
theorem JR (v) (l) (w) (h:wh w v 2 l.length (wY l)) (hl:l.length<=1000000) (hx:∀x,x∈l -> -9223372036854775808<=x.1/\x.1<=9223372036854775807 /\ -9223372036854775808<=x.2/\x.2<=9223372036854775807):
 Calls prog 211 #[v] w (PtsRes l w):=by
 obtain⟨i0,hi,R,V,T⟩:=xy Sg;have HI:=za hi;have W:=za R;have X:=za V;have S:=za T;clear hi R V T;obtain⟨N,HN⟩:=zA l.length;rw[<-HN.o]at h hl;obtain⟨p,cp,C,HP⟩:∃p cp,v=.slice p N cp/\Hid (0<N->∃g o,p=some ⟨g,o,none⟩/\∀(j:Nat) (x:Value),(wY l)[j]?=some x->w.cell? ⟨g,o+j,none⟩=some x):=by
  obtain⟨_,⟨h0,a0,c0,rfl⟩|⟨g,o,am,rfl,O⟩⟩:=h
  .exact⟨a0,c0,by rw[h0],fun h=>by omega⟩
  .exact⟨_,am,rfl,fun _=>⟨g,o,rfl,O⟩⟩
 subst C;have HX:=za hx;clear h hx;go_enter func211,ntmps211;go_wp2;go_loopw [4,10] (fun o i wr=>∃(k:Nat) (b:List Int),k<=N/\i=.int .i64 k/\b.length<=8/\Hid (ptsR (l.drop k) b=ptsR l [])/\Hid (wr.ownsRow w 3 1 o b.length (ints b))/\Below w w wr) (fun _ i _=>N-(intOf i).toNat);case atStart=>exact⟨0,[],ye _,rfl,by simp,rfl,xd _ _ _ _,zB⟩
 case round=>
  obtain⟨k,b,hk,rfl,aq,HR,HO,Z⟩:=hrel;by_cases ad:k<N
  .obtain⟨g,o,rfl,O⟩:=HP.o (by omega);have K:k<l.length:=(by rw[<-HN.o];exact ad);have hp:=Wz l k K;obtain⟨a,ha⟩:=zA (l[k].1);obtain⟨n,hn⟩:=zA (l[k].2);have P:=HX.o _ (zx K);rw[<-ha.out,<-hn.out]at hp P;obtain⟨aH,a3,a8,a4⟩:=P;have A:∀{x} {y},w.cell? x=some y->wr.cell? x=some y:=fun h=>(Z.cell (zG h)).trans h;have c1:=A (O _ _ hp.1);have c2:=A (O _ _ hp.2);have HC:=za O;clear O hp A;rw[<-yC]at c2;have a2:k<(N:Int):=(by omega);have HS:Hid (ptsR l []=if badX (a,n) then ([],1) else if 8<b.length+(exp1 (a,n)).length then ([],2) else ptsR (l.drop (k+1)) (b++exp1 (a,n))):=(by rw[<-HR.o,xp K,ptsR,ha.out,hn.out];exact rfl);have z:Below w w (wr.alloc (Obj.cells #[Value.int IntKind.i64 a,Value.int IntKind.i64 n] 250)):=Z.alloc Z.size _;by_cases c:badX (a,n)=true
   .have m:Hid ((ptsR l []).2=1):=(by rw[HS.o,ze c];exact rfl);have aF:=za c;by_cases q1:a<0
    .clear c;go_wp2;go_ret2;exact zu ⟨by rw[m.o];decide,by rw[m.o];rfl,z⟩
    .by_cases q2:256<=a
     .clear c;go_wp2;go_ret2;exact zu ⟨by rw[m.o];decide,by rw[m.o];rfl,z⟩
     .by_cases q3:n<1
      .clear c;go_wp2;go_ret2;exact zu ⟨by rw[m.o];decide,by rw[m.o];rfl,z⟩
      .by_cases q4:8<n
       .clear c;go_wp2;go_ret2;exact zu ⟨by rw[m.o];decide,by rw[m.o];rfl,z⟩
       .have q5:0<a:=(by simp[badX]at c;omega);have q6:256<a+n:=(by simp[badX]at c;omega);clear c;go_wp2;go_ret2;exact zu ⟨by rw[m.o];decide,by rw[m.o];rfl,z⟩
   .have aK:0<=a:=(by simp[badX]at c;omega);have a7:a<256:=(by simp[badX]at c;omega);have a9:1<=n:=(by simp[badX]at c;omega);have aJ:n<=8:=(by simp[badX]at c;omega);have aG:0<a->a+n<=256:=(by simp[badX]at c;omega);have F:=za c;clear c;by_cases hq:0<a;all_goals
     have aA:a+n<=512:=(by omega);have aI:¬256<a+n\/¬0<a:=by omega
     first|(have a6:¬256<a+n:=by omega)|skip
     obtain⟨U,aj⟩:∃U:World,U=wr:=⟨_,rfl⟩;subst aj;go_wp2;go_loopw [4,47] (fun o i wi=>∃j:Nat,(j:Int)<=n/\i=.int .i64 j/\Hid (wi.ownsRow w 3 1 o (b.length+j) (ints (b++(exp1 (a,n)).take j)))/\Below w w wi/\Hid (wi.heap[U.heap.size]?=some (.cells #[a,n] 250))) (fun _ i _=>(n-intOf i).toNat);case atStart =>refine⟨0,by omega,rfl,?_,z,zH⟩;simp only[xH,yX,vC];exact HO.o.alloc _
     case round=>
      obtain⟨j,hj,rfl,q,f,D⟩:=hrel;have d1:wr.cell? (U.heap.size,0)=some (.int .i64 a):=zC D.o;have d2:wr.cell? (U.heap.size,1)=some (.int .i64 n):=zC D.o;by_cases Q:(j:Int)<n
      .by_cases M:a=0
       .have al:(a==0)=true:=(by simpa using M);have Y:=za M;clear M;have t:=(q.o.alloc (.cells #[a] 3)).lt;go_wp2_with (first
         | (at_builtin;refine yI _ rfl _ _ 33 rfl w.heap.size 3 i0 (.int .i64 0) 1 8 intsT HI.o W.o X.o S.o rfl (by decide) _ _ _ rfl (q.o.alloc _) ⟨wr.heap.size,0,none⟩ 1 1 [.int .i64 a] rfl rfl (fun j u C=>Z2 _ #[a] _ j u C) (fun u C=>by simp at C;subst C;rfl) (by unfold maxLen;omega) (by omega) (by have:=f.size;simp;omega) ?_;intro v' w4 s d _))
        have B:Hid (w4.ownsRow w 3 1 v' (b.length+(j+1)) (ints (b++(exp1 (a,n)).take (j+1)))):=(by rw[W9 (a,n) j Q];rw[ze Y.o,<-Y.o];have e:ints (b++(List.take j (exp1 (a,n))++[a]))=ints (b++List.take j (exp1 (a,n)))++[.int .i64 a]:=(by simp[ints]);rw[e];exact s);have L:=xB (f.alloc f.size _) d (by have:=f.size;simp;omega) (fun r P=>(t r P).1);have H:=za (J3 (q.o.alloc _) d (tA D.o _) (by decide));clear s d t;go_wp2;go_roundw;case rel=>exact⟨j+1,by omega,by go_num,B,L,H⟩
        case measure=>simp[intOf];omega
       .have al:(a==0)=false:=(by simpa using M);have Y:=za M;clear M;have G:=zW (a+j) (by omega);have an:=za G;clear G;have t:=(q.o.alloc (.cells #[.int .i64 (a+j)] 3)).lt;go_wp2_with (first
         | (at_builtin;refine yI _ rfl _ _ 33 rfl w.heap.size 3 i0 (.int .i64 0) 1 8 intsT HI.o W.o X.o S.o rfl (by decide) _ _ _ rfl (q.o.alloc _) ⟨wr.heap.size,0,none⟩ 1 1 [.int .i64 (a+j)] rfl rfl (fun jj u C=>Z2 _ #[.int .i64 (a+j)] _ jj u C) (fun u C=>by simp at C;subst C;rfl) (by unfold maxLen;omega) (by omega) (by have:=f.size;simp;omega) ?_;intro v' w4 s d _))
        have B:Hid (w4.ownsRow w 3 1 v' (b.length+(j+1)) (ints (b++(exp1 (a,n)).take (j+1)))):=(by rw[W9 (a,n) j Q];rw[zb Y.o];have e:ints (b++(List.take j (exp1 (a,n))++[(a+j)]))=ints (b++List.take j (exp1 (a,n)))++[.int .i64 (a+j)]:=(by simp[ints]);rw[e];exact s);have L:=xB (f.alloc f.size _) d (by have:=f.size;simp;omega) (fun r P=>(t r P).1);have H:=za (J3 (q.o.alloc _) d (tA D.o _) (by decide));clear s d t;go_wp2;go_roundw;case rel=>exact⟨j+1,by omega,by go_num,B,L,H⟩
        case measure=>simp[intOf];omega
      .obtain⟨q2,ai,ag,_⟩:=tV q.o;subst ag;have I:(exp1 (a,n)).length=j:=(by simp[exp1];omega);have ac:Hid ((exp1 (a,n)).take j=exp1 (a,n)):=(by rw[<-I];exact xJ);have E:=za I;clear I;by_cases h8:8<b.length+j
       .have m:Hid ((ptsR l []).2=2):=(by rw[HS.o,zb F.o,ze (by rw[E.o];exact h8)];exact rfl);go_wp2;go_ret2;exact zu ⟨by rw[m.o];decide,by rw[m.o];rfl,f⟩
       .have m:Hid (ptsR (l.drop (k+1)) (b++exp1 (a,n))=ptsR l []):=(by rw[HS.o,zb F.o,zb (by rw[E.o];exact h8)];exact rfl);have B:Hid (wr.ownsRow w 3 1 (q2,(b.length+j),ai) (b++exp1 (a,n)).length (ints (b++exp1 (a,n)))):=(by have:=q.o;rw[ac.o]at this;rw[zm,E.o];exact this);have J:(b++exp1 (a,n)).length<=8:=(by rw[zm,E.o];omega);go_wp2;go_roundw;case rel=>exact⟨k+1,b++exp1 (a,n),by omega,by go_num,J,m,B,f⟩
        case measure=>simp[intOf];omega
  .have m:Hid (ptsR l []=(b,0)):=(by rw[<-HR.o,yP (by rw[<-HN.o];omega)];exact rfl);go_wp2;go_ret2;refine zr ⟨by rw[m.o],_,rfl,?_,Z⟩;rw[m.o];exact HO.o
def pO : List Int->List (Int×Int)
 | a::n::r=>if 0<n then (a,n)::pO r else []
 | _=>[]
theorem ND (a:List Int) (k) (h):pO (a.drop (2*k))=if 0<a[2*k+1] then (a[2*k],a[2*k+1])::pO (a.drop (2*(k+1))) else []:=by rw[xp (show 2*k<a.length by omega),xp h,pO];rfl
def rK (bs:List Int):List Int×Int:=ptsR (pO bs) []
def mi (bs:List Int):Prop:=bs.length=16/\(rK bs).2=0/\sB (ofE (rK bs).1)=bs
theorem Ss {x:Int×Int} (h:badX x=false):∀p,p∈exp1 x->0<=p/\p<=255:=by intro p a;simp only[exp1,zU,yH]at a;obtain⟨i,b,rfl⟩:=a;simp[badX]at h;split<;>omega
theorem JQ : ∀(l) (acc),acc.length<=8->(∀p,p∈acc->0<=p/\p<=255)->(ptsR l acc).2=0->(ptsR l acc).1.length<=8/\∀p,p∈(ptsR l acc).1->0<=p/\p<=255
 | [],acc,d,c,_=>⟨d,c⟩
 | x::r,acc,d,c,a=>by
  unfold ptsR at a ⊢;split at a
  .simp at a
  .rename_i e;rw[zb e];split at a
   .simp at a
   .rename_i f;rw[zb f];refine JQ r (acc++exp1 x) (by simp at *;omega) (fun p b=>?_) a;rcases yo.1 b with b|b
    .exact c p b
    .exact Ss (by simpa using e) p b
theorem Rr {l:List Int} (d:l.length<=8) (c:∀p,p∈l->0<=p/\p<=255):tY l=0:=by unfold tY;rw[zb (by omega),zb];intro h;obtain⟨p,a,b⟩:=wb.1 h;have:=c p a;simp[badP]at b;omega
theorem Jf {bs:List Int} (h:(rK bs).2=0):tY (rK bs).1=0:=by have:=JQ (pO bs) [] (by simp) (by simp) h;exact Rr this.1 this.2
theorem IX (ns):(sE ns).data.toList=ns.map fun n=>UInt8.ofNat n.toNat:=by
 have b:∀(l:List Int) (r:ByteArray),(l.foldl (fun r n=>r.push (UInt8.ofNat n.toNat)) r).data.toList=r.data.toList++l.map fun n=>UInt8.ofNat n.toNat:=by
  intro l
  induction l with
  | nil=>intro r;simp
  | cons a l c=>intro r;rw[wl,c];simp[ByteArray.push]
 simpa[sE]using b ns ByteArray.empty
theorem Id {a b:List Int} (k:∀x,x∈a->0<=x/\x<=255) (l:∀x,x∈b->0<=x/\x<=255) (h:sE a=sE b):a=b:=by
 have g:a.map (fun n=>UInt8.ofNat n.toNat)=b.map fun n=>UInt8.ofNat n.toNat:=by rw[<-IX,<-IX,h]
 have c:∀(a b:List Int),(∀x,x∈a->0<=x/\x<=255)->(∀x,x∈b->0<=x/\x<=255)->a.map (fun n=>UInt8.ofNat n.toNat)=b.map (fun n=>UInt8.ofNat n.toNat)->a=b:=by
  intro a
  induction a with
  | nil=>intro b _ _ h;cases b<;>simp_all
  | cons x a f=>
   intro b k l h;cases b with
   | nil=>simp at h
   | cons y b=>
    simp only[yF,tX]at h;have j:=k x (by simp);have i:=l y (by simp);have e:x=y:=(by have:=zV UInt8.toNat h.1;simp only[UInt8.toNat_ofNat']at this;omega);rw[e,f b (fun z d=>k z (by simp[d])) (fun z d=>l z (by simp[d])) h.2]
 exact c a b k l g
