import Derived.Test.YtpcedcnjofbgjaaGreatDoorKA11
import Derived.Handy
set_option maxHeartbeats 0
set_option linter.all false
set_option maxRecDepth 100000
namespace Go.Proofs.YtpcedcnjofbgjaaGreatDoor
open Go.Proofs.Tryz Go.RowKit
theorem EX {l D:List Int} {o:Nat} (h:o+D.length<=l.length):(over l o D).length=l.length:=Q2 h
theorem L9 (L) (i) (x):(u8s L).toArray.setIfInBounds i (.int .u8 x)=(u8s (L.set i x)).toArray:=by unfold u8s;rw[uk];simp
section
variable {P : Program}
theorem Qd (w) (dT sT ty elem) (l:P.underlying dT=some (.slice elem)) (j:(P.info? elem).map (·.size)=some 1)
 (g o dLen dCap) (sv) (cur) (t) (m:w.heap[g]?=some (.cells (u8s cur).toArray t (0,0))) (k:o+dLen<=cur.length) (n:sv.size<=dLen):
 (Builtin.copy_ #[dT,sT] ty #[.slice (some ⟨g,o,none⟩) dLen dCap,.string sv]).run P w=.ok (goInt (Nat.min sv.size dLen)) (w.setRow g (u8s (over cur o (bI sv))).toArray):=by
 have f:(bI sv).length<=dLen:=by rw[RN];exact n
 have a:=wS P g o t (u8s (bI sv)) 0 (u8s cur).toArray w m (by simp[wd];omega) (gZ _);have e:((u8s cur).toArray.toList.take (o+0)++u8s (bI sv)++(u8s cur).toArray.toList.drop (o+0+(u8s (bI sv)).length)).toArray=(u8s (over cur o (bI sv))).toArray:=by unfold over;rw[pX,pX,ZP,no,wd,zR];rfl
 rw[e]at a;have d:((sv.data.toList.map λb=>Value.int IntKind.u8 b.toNat).take (Nat.min sv.size dLen))=u8s (bI sv):=by
  rw[show u8s (bI sv)=sv.data.toList.map λb:UInt8=>Value.int IntKind.u8 (b.toNat:Int) by simp[u8s,bI]];refine zo ?_;have:(sv.data.toList.map λb=>Value.int IntKind.u8 b.toNat).length=sv.size:=by rw[yD];rfl
  rw[this];show sv.size<=min sv.size dLen;omega
 cases c:P.info? elem with
 | none=>simp[c]at j
 | some i=>
  have h:i.size=1:=by simpa[c]using j
  simp[Builtin.copy_,wP l,Builtin.lenOf,Builtin.firstCells,sizeOf,typeInfo,c];rw[d,a];simp[Result.andThen]
end
theorem FX {α β:Type}:∀(L M:List α) (T:List β),(L++M).zip T=L.zip T++M.zip (T.drop L.length)
 | [],M,T=>by simp
 | a::L,M,[]=>by simp
 | a::L,M,b::T=>by simp[FX L M T]
theorem GC (D) (q) (x) (R) (T):layF D ((q::R).zip (x::T))=layF (putE D (q,x)) (R.zip T):=rfl
theorem Ek: prog.underlying 38=some (.slice 5):=by kernel_rfl
theorem Ka: (prog.info? 5).map (·.size)=some 1:=by kernel_rfl
structure Zf (gl gy go gn gb:Nat) (p:Option Addr) (N cp M capb:Nat) (S:List En) (D:List Int) (q:Nat) (w:World):Prop where
 l:w.heap[gl]?=some (.cells #[(p,N,cp)] 108)
 s:S.length=N
 own:w.ownsRow 0 112 2 (p,N,cp) N (ents S)
 y:w.heap[gy]?=some (.cells #[.func (.func 189) #[] #[(gl,()),(gy,()),(go,()),(gn,())]] 120)
 o:w.heap[go]?=some (.cells #[(gb,0,M,capb)] 38)
 b:w.heap[gb]?=some (.cells (u8s D).toArray 5 (0,0))
 n:w.heap[gn]?=some (.cells #[q] 3)
 d:D.length=M
 c:M<=capb
 m:M=16*N
section
variable {gl gy go gn gb N cp M capb q : Nat} {p : Option Addr} {S : List En} {D : List Int} {w w' : World}
def LayB (gb gn:Nat) (i:Nat):Prop:=i=gb\/i=gn
theorem Zf.keep {F:Nat->Prop} (h:Zf gl gy go gn gb p N cp M capb S D q w) (z:yK F w w') (A:∀i,F i->LayB gb gn i) {D':List Int} {q':Nat} (x:w'.heap[gb]?=some (.cells (u8s D').toArray 5 (0,0))) (B:w'.heap[gn]?=some (.cells #[q'] 3)) (C:D'.length=M):Zf gl gy go gn gb p N cp M capb S D' q' w':=by
 have k:∀i,i≠gb->i≠gn->i<w.heap.size->w'.heap[i]?=w.heap[i]? :=λi d a u=>z.block i u λv=>(A i v).elim d a;refine⟨(k gl (ve h.l h.b (by decide)) (ve h.l h.n (by decide)) (xB h.l)).trans h.l,h.s,tI h.own λb x=>?_,
  (k gy (ve h.y h.b (by decide)) (ve h.y h.n (by decide)) (xB h.y)).trans h.y,(k go (ve h.o h.b (by decide)) (ve h.o h.n (by decide)) (xB h.o)).trans h.o,x,B,C,h.c,h.m⟩
 have d:=rC h.own h.b (by decide);have a:=rC h.own h.n (by decide);rw[x]at d a;refine k b (λe=>d (by rw[e])) (λe=>a (by rw[e])) ?_;obtain⟨_,⟨f,_⟩|⟨g,t,j,f,_,r,_⟩⟩:=h.own
 .rw[f]at x;simp[Value.ownBlock]at x
 .rw[f]at x;have:g=b:=by simpa[Value.ownBlock]using x
  rw[<-this];exact xB r
theorem Zf.drew (h:Zf gl gy go gn gb p N cp M capb S D q w):Zf gl gy go gn gb p N cp M capb S D q w.drew:=⟨h.l,h.s,h.own,h.y,h.o,h.b,h.n,h.d,h.c,h.m⟩
theorem Zf.cells (h:Zf gl gy go gn gb p N cp M capb S D q w):w.cell? (gl,0)=some (.slice p N cp)/\w.cell? (gy,0)=some (.func (.func 189) #[] #[(gl,()),(gy,()),(go,()),(gn,())])/\w.cell? (go,0)=some (.slice (some ⟨gb,0,none⟩) M capb)/\w.cell? (gn,0)=some (.int .i64 q)/\w.frozen? (gn,0)=false:=
 ⟨zC h.l,zC h.y,zC h.o,zC h.n,zF h.n⟩
theorem Zf.entry (h:Zf gl gy go gn gb p N cp M capb S D q w) (k:q<N):∃(g o:Nat) (hq':q<S.length),p=some ⟨g,o,none⟩/\w.cell? (g,o+q*2)=some (.string S[q].1)/\w.cell? (g,o+(q*2+1))=some (.int .i64 S[q].2):=by
 have d:qM w (p,N,cp) S:=by have:=uq.of_owns h.own;unfold qM;rw[h.s];exact this
 obtain⟨j,b,e,a⟩:=kJ d N h.s.symm;injection e with c _ _;subst c;obtain⟨g,o,f,_,i⟩:=a (by omega);exact⟨g,o,by rw[h.s];exact k,f,i q _⟩
end
def Tg (gl gy go gn gb:Nat) (p:Option Addr) (N cp M capb:Nat) (S:List En) (D:List Int) (q at_:Nat) (w:World) (e:Ending) (w':World):Prop:=
 e=.returned (.tuple #[])/\Zf gl gy go gn gb p N cp M capb S (layF D ((ino N at_).zip (S.drop q))) (q+(ino N at_).length) w'/\yK (LayB gb gn) w w'
theorem GD (gl gy go gn gb:Nat) (p:Option Addr) (N cp M capb:Nat) (S:List En) (hS:∀x∈S,x.1.size<=14/\0<=x.2/\x.2<=255) (hN:N<=32):∀(f at_ q:Nat) (D:List Int) (w:World),N<=at_+f->q+(ino N at_).length<=N->Zf gl gy go gn gb p N cp M capb S D q w->at_<=1000 ->
 Calls prog 189 #[at_,(gl,()),(gy,()),(go,()),(gn,())] w (Tg gl gy go gn gb p N cp M capb S D q at_ w):=by
 have HS:=za hS;clear hS;have U:∀(at_ q:Nat) (D:List Int) (w:World),N<=at_->Zf gl gy go gn gb p N cp M capb S D q w->Calls prog 189 #[at_,(gl,()),(gy,()),(go,()),(gn,())] w (Tg gl gy go gn gb p N cp M capb S D q at_ w):=by
  intro at_ q D w ae h;obtain⟨c1,_,_,_,_⟩:=h.cells;have HL:=za h;have bb:(N:Int)<=(at_:Int):=by omega
  have HE:Hid (Tg gl gy go gn gb p N cp M capb S D q at_ w (.returned (.tuple #[])) w):=by refine⟨rfl,?_,yK.refl _ _⟩;rw[Vv ae];exact h
  clear h;go_enter func189,ntmps189;go_wp2
  go_returns
  exact HE.o
 have s:=za U;clear U;intro f
 induction f with
 | zero=>exact λat_ q D w A _ O _=>s.o at_ q D w (by omega) O
 | succ f ih=>
  intro at_ q D w A h2 O h4;by_cases ae:N<=at_
  .exact s.o at_ q D w ae O
  have a7:at_<N:=by omega
  have k:=i8 a7;obtain⟨L,HL⟩:=zD (ino N (2*at_+1));obtain⟨R,HR⟩:=zD (ino N (2*at_+2));rw[HL.o,HR.o]at k;obtain⟨a1,E⟩:=zD (2*at_+1);obtain⟨a2,G⟩:=zD (2*at_+2);obtain⟨j,r⟩:=zD (q+L.length);obtain⟨J,I⟩:=zD (j+1);rw[E.o]at HL;rw[G.o]at HR;have K:(ino N at_).length=L.length+(R.length+1):=by rw[k];simp
  rw[K]at h2;have Q:j<N:=by have:=r.o;omega
  have aD:J+R.length<=N:=by have:=r.o;have:=I.o;omega
  have i1:=ih a1 q D w (by have:=E.o;omega) (by rw[HL.o];omega) O (by have:=E.o;omega);have I1:=za i1;have I2:Hid (∀(D:List Int) (w:World),Zf gl gy go gn gb p N cp M capb S D J w->Calls prog 189 #[a2,(gl,()),(gy,()),(go,()),(gn,())] w (Tg gl gy go gn gb p N cp M capb S D J a2 w)):=λD w hw=>ih a2 J D w (by have:=G.o;omega) (by rw[HR.o];omega) hw (by have:=G.o;omega);obtain⟨c1,c2,c3,c4,c5⟩:=O.cells;have w1:=zW (2*(at_:Int)) (by omega);have w2:IntKind.i64.wrap (2*(at_:Int)+1)=(a1:Int):=by rw[zM _ (by omega)];have:=E.o;omega
  have w3:IntKind.i64.wrap (2*(at_:Int)+2)=(a2:Int):=by rw[zM _ (by omega)];have:=G.o;omega
  obtain⟨i,T⟩:∃b,16*at_=b:=⟨_,rfl⟩;obtain⟨a,av⟩:∃b,i+14=b:=⟨_,rfl⟩;have w4:IntKind.i64.wrap (16*(at_:Int))=(i:Int):=by rw[zM _ (by omega)];omega
  have w5:IntKind.i64.wrap ((i:Int)+14)=(a:Int):=by rw[zM _ (by omega)];omega
  have w6:IntKind.i64.wrap ((j:Int)+1)=(J:Int):=by rw[zM _ (by omega)];have:=I.o;omega
  have aR:¬(N:Int)<=(at_:Int):=by omega
  clear ih i1 A h4 O;go_enter func189,ntmps189;go_wp2_with fail
  refine I1.out.mono ?_;rintro e wA ⟨rfl,v,au⟩;rw[HL.o,r.o]at v;obtain⟨d1,d2,d3,d4,d5⟩:=v.cells;obtain⟨ge,oe,ao,hp,e1,e2⟩:=v.entry Q;subst hp;obtain⟨D1,am⟩:=zD (layF D (L.zip (S.drop q)));rw[am.o]at v;obtain⟨x1,H⟩:=zD (S[j].1);obtain⟨x2,C⟩:=zD (S[j].2);rw[H.o]at e1;rw[C.o]at e2;have hx:=HS.o S[j] (Nj ao);rw[H.o,C.o]at hx;obtain⟨bk,aS,aU⟩:=hx;have e3:=e2;rw[<-yp]at e3;have HA:=za v;have ai:=za au;have ac:=za v.b;have F:D1.length=M:=v.d;have aE:=v.c;have hM:=v.m;have k1:(i:Int)<=(M:Int):=by omega
  have k2:(M:Int)<=(capb:Int):=by omega
  have bf:¬capb=i:=by omega
  have aG:¬i=capb:=by omega
  have HM:=za hM;clear hM;have kq:(j:Int)<(N:Int):=by omega
  clear v au c1 c2 c3 c4 c5;go_wp2
  go_still_tail 9,(by kernel_rfl)
  go_wp2_with fail
  have t:=Qd (P:=prog) wA.drew 38 9 3 5 Ek Ka gb i (M-i) (capb-i) x1 D1 5 ac.o (by rw[F];omega) (by have:=HM.o;omega);obtain⟨y,B⟩:=zD (over D1 i (bI x1));rw[B.o]at t;rw[t];have g:yK (LayB gb gn) wA (wA.drew.setRow gb (u8s y).toArray):=(yK.refl _ _).drew.step (yK.setRow (zu rfl) _);have X:(wA.drew.setRow gb (u8s y).toArray).heap[gb]?=some (.cells (u8s y).toArray 5 (0,0)):=ya _ _ _ _ _ _ ac.o;have Y:(wA.drew.setRow gb (u8s y).toArray).heap[gn]?=some (.cells #[j] 3):=(yO _ _ _ _ (ve HA.o.n HA.o.b (by decide))).trans HA.o.n;have aa:y.length=M:=by rw[<-B.o,EX (by rw[RN,F];have:=HM.o;omega)];exact F
  have hB:=HA.o.keep g (λ_ h=>h) X Y aa;have a9:=za (ai.o.step g);have a8:=aa;have z:=za hB;obtain⟨f1,f2,f3,f4,f5⟩:=hB.cells;have bo:(wA.drew.setRow gb (u8s y).toArray).cell? (ge,oe+j*2+1)=some (.int .i64 x2):=by obtain⟨g',o',A,h2,_,h4⟩:=hB.entry Q;injection h2 with h2;injection h2 with h2 O _;rw[<-h2,<-O,<-yp]at h4;rw[h4,C.o]
  clear t g X Y aa hB HA ai ac F e1 e2 e3 d1 d2 d3 d4 d5;generalize wA.drew.setRow gb (u8s y).toArray=wB at *
  have k4:a<M:=by have:=HM.o;omega
  have V:∃u,wB.cell? (gb,a)=some u:=by have A:(u8s y).toArray[a]?=some (.int .u8 (y[a]' (by omega))):=(by rw[<-zK];exact Ch y a (by omega));exact⟨_,by rw[<-A];exact zC z.o.b⟩
  obtain⟨u,V⟩:=V;have aO:wB.frozen? (gb,a)=false:=zF z.o.b;have kb:(a:Int)<(M:Int):=by omega
  have wu:IntKind.u8.wrap x2=x2:=IntWalk.u8_in _ (by omega);obtain⟨D3,Z⟩:=zD (putE D1 (at_,S[j]));obtain⟨wC,l⟩:=zD ((wB.setCell (gb,a) (.int .u8 x2)).setCell (gn,0) (.int .i64 (J:Int)));have ar:wC.heap[gb]?=some (.cells (u8s D3).toArray 5 (0,0)):=by have A:(wB.setCell (gb,a) (.int .u8 x2)).heap[gb]?=some (.cells (u8s D3).toArray 5 (0,0)):=(by rw[tf _ _ _ _ _ _ _ z.o.b,ya _ _ _ _ _ _ z.o.b,L9,<-Z.o,<-B.o,<-av,<-T,<-H.o,<-C.o];rfl);rw[<-l.o,yj _ _ _ _ (ve z.o.b z.o.n (by decide))];exact A
  have aq:wC.heap[gn]?=some (.cells #[J] 3):=by have A:(wB.setCell (gb,a) (.int .u8 x2)).heap[gn]?=some (.cells #[j] 3):=(by rw[yj _ _ _ _ (ve z.o.n z.o.b (by decide))];exact z.o.n);rw[<-l.o,tf _ _ _ _ _ _ _ A,ya _ _ _ _ _ _ A];rfl
  have g:yK (LayB gb gn) wB wC:=by rw[<-l.o];exact ((yK.refl _ _).step (yK.setCell (zu rfl) _)).step (yK.setCell (zw rfl) _)
  have W:D3.length=M:=by rw[<-Z.o];unfold putE;rw[xT];show (over D1 (16*at_) (bI S[j].1)).length=M;rw[T,H.o,B.o];exact a8
  have hC:=z.o.keep g (λ_ h=>h) ar aq W;have aA:=za (a9.o.step g);obtain⟨_,g2,_,_,_⟩:=hC.cells;rw[<-l.o]at g2;have HC:=za hC.drew;clear hC g ar aq W;go_wp2
  go_still_tail 11,(by kernel_rfl)
  go_wp2_with fail
  rw[l.o];refine (I2.out _ _ HC.o).mono ?_;rintro e wD ⟨rfl,hD,al⟩;have aj:Hid (Tg gl gy go gn gb (some (ge,oe)) N cp M capb S D q at_ w (.returned (.tuple #[])) wD):=by refine⟨rfl,?_,aA.o.drew.step al⟩;have e1:layF D ((ino N at_).zip (S.drop q))=layF D3 (R.zip (S.drop J)):=(by rw[k,FX,Vt,am.o,Lz,r.o,yR ao,GC,Z.o,I.o]);have e2:q+(ino N at_).length=J+R.length:=(by rw[K];have:=r.o;have:=I.o;omega);rw[e1,e2];rw[HR.o]at hD;exact hD
  clear hD al;go_wp2
  go_returns
  exact aj.o
