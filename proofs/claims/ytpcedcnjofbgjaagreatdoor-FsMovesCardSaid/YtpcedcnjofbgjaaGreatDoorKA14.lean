import Derived.Test.YtpcedcnjofbgjaaGreatDoorKA12
import Derived.Laws.EntriesVeiled
import Derived.Lib.SlBytesRow
import Derived.Deep.DrawnRows
set_option maxHeartbeats 0
set_option linter.all false
set_option maxRecDepth 100000
namespace Go.Proofs.YtpcedcnjofbgjaaGreatDoor
open Go.Proofs.Tryz Go.RowKit
variable {D:List Int} {l:List En} {n:Nat} {o:Obj} {v:Value} {w w':World}
theorem Kc: (prog.info? 5).map (λi=>(i.zero,i.size,i.bytes))=some (some (.int .u8 0),1,1):=by kernel_rfl
theorem Dm (n:Nat):madeCells #[Value.int .u8 0] n=(u8s (List.replicate n 0)).toArray:=by
 apply yV;intro i;unfold madeCells u8s;by_cases h:i<n
 .simp[h,nf]
 .simp[h]
theorem KL (n:Nat) (x:Int) (a:x=n) (b:n<=1000000) (W:World):(Instr.makeSlice 38 (.int .i64 x) (.int .i64 x)).run prog W=.ok (W.heap.size,0,n,n) (W.alloc (.cells (u8s (List.replicate n 0)).toArray 5)):=by subst a;rw[<-Dm];exact run_make_row' 38 5 (.int .u8 0) 1 Ek Kc rfl .i64 .i64 n (by omega) (by omega) W
theorem vt (w:World) (o:Obj):(w.alloc o).heap.size=w.heap.size+1:=by show (w.heap.push _).size=_;simp
theorem sX {i:Nat} (h:i<w.heap.size):(w.alloc o).heap[i]?=w.heap[i]? :=((xW w w).alloc zL o).block i h
theorem Rz (h:n=w.heap.size):(w.alloc o).heap[n]?=some o:=by subst h;exact zO w o
theorem RU {g cap:Nat} {t:TypeId} {fr:Nat×Nat} (h:w.heap[g]?=some (.cells (u8s D).toArray t fr)) (b:D.length=n):uM w (g,0,n,cap) D:=by refine⟨by rw[wd];omega,zw ⟨g,0,cap,by rw[b],λj x a=>?_⟩⟩;rw[zC h,yF,<-a,<-zK]
structure WX (w:World) (v:Value) (l:List En):Prop where
 at_:qM w v l
 cap:FW v
structure mU (w:World) (v:Value) (D:List Int):Prop where
 at_:uM w v D
 cap:FW v
theorem mU.below (h:mU w v D) (a:Below w w w'):mU w' v D:=⟨uq.below h.1 a,h.2⟩
def LayOk (l:List En) (w:World) (e:Ending) (w':World):Prop:=∃v,e=.returned (.tuple #[v,()])/\mU w' v (layD l)/\Below w w w'
def QS (l:List En) (w:World) (e:Ending) (w':World):Prop:=∃v,e=.returned (.tuple #[v,()])/\mU w' v (layD l)/\(∀b,v.ownBlock=some b->w.heap.size<=b)/\Below w w w'
theorem QS.ok {e:Ending} (h:QS l w e w'):LayOk l w e w':=by obtain⟨v,c,a,_,b⟩:=h;exact⟨v,c,a,b⟩
theorem CP (v:Value) (l:List En) (w:World) (h:WX w v l) (q:l.length<=1000000) (r:Int) (n:ud l=r) (m:r≠0):
 Calls prog 147 #[v] w (κ w (.tuple #[.slice none 0 0,r])):=by
 obtain⟨N,i⟩:=zA l.length;obtain⟨p,a,rfl,_⟩:=kJ h.1 N i.o;have b:Hid (Below w w (w.alloc (.cells #[(p,N,a)] 108))):=zB.alloc zL _;have j:Hid (Calls prog 185 #[(p,N,a)] (w.alloc (.cells #[(p,N,a)] 108)) <|ρ r λw'=>Below (w.alloc (.cells #[(p,N,a)] 108)).heap.size (w.alloc (.cells #[(p,N,a)] 108)) w'):=by have:=Qi (p,N,a) l (w.alloc (.cells #[(p,N,a)] 108)) (h.1.below b.o) h.2 q;rw[n]at this;exact this
 have g:(r==0)=false:=by rw[yU];exact m
 have k:(r != 0)=true:=by simp[bne,g]
 clear h n;go_enter func147,ntmps147;go_wp2_with fail
 refine j.o.mono ?_;rintro e f ⟨rfl,c⟩;have d:Hid (Below w w f):=zi b.o c;clear c;go_wp2
 go_returns
 exact⟨rfl,d.o⟩
theorem j1 (v:Value) (l:List En) (w:World) (h:WX w v l) (hr:ud l=0):
 Calls prog 147 #[v] w (QS l w):=by
 have hz:=(qO l).1 hr;have HZ:=za hz;have hl:=hz.1;obtain⟨N,F⟩:=zA l.length;rw[<-F.o]at hl;obtain⟨p,E,rfl,_⟩:=kJ h.1 N F.o;have ap:Hid (Below w w (w.alloc (.cells #[(p,N,E)] 108))):=zB.alloc zL _;have HR:Hid (Calls prog 185 #[(p,N,E)] (w.alloc (.cells #[(p,N,E)] 108)) <|ρ () λw'=>Below (w.alloc (.cells #[(p,N,E)] 108)).heap.size (w.alloc (.cells #[(p,N,E)] 108)) w'):=by have:=Qi (p,N,E) l (w.alloc (.cells #[(p,N,E)] 108)) (h.1.below ap.o) h.2 (by rw[<-F.o];omega);rw[hr]at this;exact this
 have HH:=za h;have an:=zO w (.cells #[(p,N,E)] 108);have aw:=za an;clear h hr hz an;obtain⟨M,HM⟩:=zD (16*N);have wm:IntKind.i64.wrap (16*(N:Int))=(M:Int):=by rw[zM _ (by omega)];have:=HM.o;omega
 obtain⟨Z,ab⟩:=zA (List.replicate M (0:Int));have aV:∀W:World,(Instr.makeSlice 38 (.int .i64 (M:Int)) (.int .i64 (M:Int))).run prog W=.ok (W.heap.size,0,M,M) (W.alloc (.cells (u8s Z).toArray 5)):=λW=>by rw[ab.o];exact KL M M rfl (by have:=HM.o;omega) W
 go_enter func147,ntmps147
 go_wp2_with fail
 refine HR.o.mono ?_;rintro e w1 ⟨rfl,ac⟩;have S:=(ac.block w (xB aw.o)).trans aw.o;have a1:w1.cell? (w.heap.size,0)=some (.slice p N E):=zC S;have ag:=za S;have V:Hid (Below w w w1):=zi ap.o ac;clear ac S;go_wp2_with fail
 refine (Tz _ l w1 (HH.o.1.below V.o) (by rw[<-F.o];omega)).mono ?_;rintro e w2 ⟨v2,rfl,f,Q,aY⟩;rw[<-F.o]at f;obtain⟨u,y,rfl,_⟩:=rU f;have s:=(Q.block w (xB ag.o)).trans ag.o;have a2:w2.cell? (w.heap.size,0)=some (.slice p N E):=zC s;have f2:w2.frozen? (w.heap.size,0)=false:=zF s;obtain⟨w3,t⟩:=zD (w2.setCell (w.heap.size,0) (u,N,y));have U:w3.heap[w.heap.size]?=some (.cells #[(u,N,y)] 108):=by rw[<-t.o,tf _ _ _ _ _ _ _ s,ya _ _ _ _ _ _ s];rfl
 have k:w3.ownsRow w1 112 2 (u,N,y) N (ents l):=tI f λb C=>by rw[<-t.o,yj _ _ _ _ (λe=>rC f s (by decide) (by rw[C,e]))]
 have aq:Hid (Below w w w3):=by rw[<-t.o];exact (zi V.o Q).setCell zL _
 have z:=IZ w1 (u,N,y) l w3 (by rw[<-F.o];exact k) (by rw[<-F.o];omega);have aH:=za z;have ay:=za k;have R:=za U;have a3:w3.cell? (w.heap.size,0)=some (.slice u N y):=zC U;clear f Q s k z U;have K:=a3;rw[<-t.o]at K;go_wp2_with fail
 rw[t.o];refine aH.o.mono ?_;rintro e a ⟨rfl,T,hp,hs,A,a0⟩;have aa:yK (λi=>(Value.slice u N y).ownBlock=some i) w3 a:=yK.grown a0 λr hr=>hr;have am:∀i,(Value.slice u N y).ownBlock=some i->w1.heap.size<=i:=λi D=>by
  obtain⟨_,⟨I,_⟩|⟨g,X,P,I,hg,_⟩⟩:=ay.o
  .rw[I]at D;simp[Value.ownBlock]at D
  .rw[I]at D;have:g=i:=(by simpa[Value.ownBlock]using D);rw[<-this];exact hg
 have J:=(aa.block w (xB R.o) (rC ay.o R.o (by decide))).trans R.o;have a4:a.cell? (w.heap.size,0)=some (.slice u N y):=zC J;have ao:Below w w a:=aq.o.trans (aa.to_below (λi D=>zv V.o.size (am i D)) aq.o.size);have aB:=za J;have H:=za ao;have aE:=za A;have G:=za hp;have aF:=za hs;have aj:w.heap.size<a.heap.size:=xB J;have aK:¬w.heap.size=a.heap.size:=by omega
 clear hp hs A a0 aa am J ao K a1 a2 a3 f2 t;obtain⟨L,m⟩:=zD ((((a.alloc (.cells (u8s Z).toArray 5)).alloc (.cells #[(a.heap.size,0,M,M)] 38)).alloc (.cells #[()] 3)).alloc (.cells #[.func (.func 189) #[] #[(w.heap.size,()),.pointer (some ⟨a.heap.size+1+1+1,0,none⟩),.pointer (some ⟨a.heap.size+1,0,none⟩),.pointer (some ⟨a.heap.size+1+1,0,none⟩)]] 120));have q:∀i,i<a.heap.size->L.heap[i]?=a.heap[i]? :=λi D=>by rw[<-m.o,sX (by simp only[vt];omega),sX (by simp only[vt];omega),sX (by simp only[vt];omega),sX D]
 have ak:L.heap[a.heap.size]?=some (.cells (u8s Z).toArray 5):=by rw[<-m.o,sX (by simp only[vt];omega),sX (by simp only[vt];omega),sX (by simp only[vt];omega),Rz rfl]
 have ax:L.heap[a.heap.size+1]?=some (.cells #[(a.heap.size,0,M,M)] 38):=by rw[<-m.o,sX (by simp only[vt];omega),sX (by simp only[vt];omega),Rz (by simp only[vt])]
 have ah:L.heap[a.heap.size+1+1]?=some (.cells #[()] 3):=by rw[<-m.o,sX (by simp only[vt];omega),Rz (by simp only[vt])]
 have au:L.heap[a.heap.size+1+1+1]?=some (.cells #[.func (.func 189) #[] #[(w.heap.size,()),.pointer (some ⟨a.heap.size+1+1+1,0,none⟩),.pointer (some ⟨a.heap.size+1,0,none⟩),.pointer (some ⟨a.heap.size+1+1,0,none⟩)]] 120):=by rw[<-m.o,Rz (by simp only[vt])]
 have ar:Below w w L:=by rw[<-m.o];have s1:=H.o.size;exact (((H.o.alloc s1 _).alloc (by simp only[vt];omega) _).alloc (by simp only[vt];omega) _).alloc (by simp only[vt];omega) _
 have af:T.length=N:=by rw[G.o.length_eq,<-F.o]
 have B:a.ownsRow 0 112 2 (u,N,y) N (ents T):=by have h:=aE.o;rw[<-F.o]at h;exact⟨h.1,h.2.elim zu (λ⟨g,X,P,I,_,r⟩=>zw ⟨g,X,P,I,yh _,r⟩)⟩
 have O:Zf w (a.heap.size+1+1+1) (a.heap.size+1) (a.heap.size+1+1) a u N y M M T Z 0 L:=by
  refine⟨?_,af,tI B λb C=>?_,au,?_,?_,?_,?_,zL,HM.o.symm⟩
  .rw[q _ aj];exact aB.o
  .have aD:b<a.heap.size:=by
    obtain⟨_,⟨I,_⟩|⟨g,X,P,I,_,hh,_⟩⟩:=B
    .rw[I]at C;simp[Value.ownBlock]at C
    .rw[I]at C;have:g=b:=(by simpa[Value.ownBlock]using C);rw[<-this];exact xB hh
   rw[q _ aD]
  .exact ax
  .exact ak
  .exact ah
  .rw[ab.o,xt]
 have av:Hid (∀x∈T,x.1.size<=14/\0<=x.2/\x.2<=255):=λx hx=>by have h1:=kK (HZ.o.2.1 x (G.o.mem_iff.1 hx));exact⟨(Ro h1.1).1,by omega,by omega⟩
 have j:=GD w (a.heap.size+1+1+1) (a.heap.size+1) (a.heap.size+1+1) a u N y M M T av.o hl N 0 0 Z L (by omega) (by rw[(N7 hl).2.1];omega) O (by omega);rw[show ((0:Nat):Int)=0 from rfl]at j;have Y:=za j;have al:=za ar;clear j ar O B au ah ax ak q;go_wp2_with fail
 rw[m.o];refine Y.o.mono ?_;rintro e w7 ⟨rfl,hL,hk⟩;have a7:w7.cell? (a.heap.size+1,0)=some (.slice (some ⟨a.heap.size,0,none⟩) M M):=zC hL.o;have hD:layF Z ((ino N 0).zip (T.drop 0))=layD l:=by have hT:T=O6 l:=X7 G.o (ik aF.o (((G.o.map (·.1)).nodup_iff).2 HZ.o.2.2));unfold layD layS;rw[<-hT,af,vy,ab.o,HM.o]
 have az:Below w w w7:=al.o.trans (hk.to_below (λi D=>by have:=H.o.size;rcases D with rfl|rfl<;>omega) al.o.size);have ai:Hid (QS l w (.returned (.tuple #[(a.heap.size,0,M,M),()])) w7):=by
  refine⟨_,rfl,⟨?_,λp n c he=>?_⟩,λb C=>?_,az⟩
  .have h1:=hL.b;rw[hD]at h1;have h2:=hL.d;rw[hD]at h2;exact RU h1 h2
  .injection he with _ e2 e3;omega
  .injection C with C;have aW:a.heap.size=b:=C;have:=H.o.size;omega
 clear hL hk hD az;go_wp2
 go_returns
 exact ai.o
theorem lay_ok (v) (l) (w) (h:WX w v l) (b:ud l=0):
 Calls prog 147 #[v] w (LayOk l w):=
 (j1 v l w h b).mono λ_ _ a=>a.ok
open Go.Shelf
def tL (D:List Int):Prop:=∀x∈D,0<=x/\x<=255
theorem Na {E:List Int} {o:Nat} (h:tL D) (c:tL E):tL (over D o E):=λx a=>by
 have b:x∈D.take o\/x∈E\/x∈D.drop (o+E.length):=by have:=a;unfold over at this;simpa only[yN]using this
 clear a;rcases b with a|a|a
 .exact h x (xI a)
 .exact c x a
 .exact h x (vN a)
theorem FA (s:ByteArray):tL (bI s):=λx a=>by obtain⟨b,_,rfl⟩:=yd.1 a;have:=b.toNat_lt;omega
theorem Cb : ∀(P:List (Nat×En)) (D:List Int),tL D->(∀p∈P,0<=p.2.2/\p.2.2<=255)->tL (layF D P)
 | [],_,h,_=>h
 | p::P,D,h,b=>by
  refine Cb P (putE D p) (λx a=>?_) (λq c=>b q (by simp[c]));unfold putE at a;rcases ta a with a|a
  .exact Na h (FA _) x a
  .rw[a];exact b p (by simp)
theorem KU (h:ud l=0):tL (layD l):=by
 obtain⟨d,b,_⟩:=OR h;unfold layD layS;refine Cb _ _ (λx c=>?_) λp a=>?_
 .rw[uX]at c;omega
 .have:=kK (b p.2 (nH a).2);omega
theorem Eu: prog.underlying 9=some .string:=by kernel_rfl
theorem D9 (h:uM w v D) (d:0<D.length):(convert 38 9 v).run prog w=.ok (.string (tu D)) w:=by
 obtain⟨_,⟨b,_⟩|⟨g,o,c,rfl,a⟩⟩:=h
 .omega
 exact sC w 38 9 5 g o c D.length D rfl Ek (by kernel_rfl) Eu a
theorem rj (D):(tu D).size=D.length:=by show (tu D).data.toList.length=_;rw[Yi,yD]
theorem Ez (v:Value) (D:List Int) (w:World) (h:mU w v D) (hD:tL D) (aa:Nat) (ab:16*aa+16<=D.length) (hl:D.length<=1000000):
 Calls prog 146 #[v,aa] w (κ w (.agg #[.string (rdE D aa).1,.int .i64 (rdE D aa).2])):=by
 obtain⟨F,u⟩:=zD ((rdE D aa).1);obtain⟨f,A⟩:=zD ((rdE D aa).2);rw[u.o,A.o];obtain⟨N,C⟩:=zD D.length;obtain⟨g,o,B,rfl,t⟩:∃g o B,v=.slice (some ⟨g,o,none⟩) N B/\∀(j:Nat) (x:Value),(u8s D)[j]?=some x->w.cell? ⟨g,o+j,none⟩=some x:=by
  obtain⟨_,⟨Y,_⟩|⟨g,o,H,T,t⟩⟩:=h.1
  .omega
  .exact⟨g,o,H,by rw[<-C.o];exact T,t⟩
 have L:N<=B:=h.2 _ _ _ rfl;rw[C.o]at ab hl;obtain⟨c,n⟩:∃b,16*aa=b:=⟨_,rfl⟩;obtain⟨a,z⟩:∃b,c+14=b:=⟨_,rfl⟩;have U:IntKind.i64.wrap (16*(aa:Int))=(c:Int):=by rw[zM _ (by omega)];omega
 have w5:IntKind.i64.wrap ((c:Int)+14)=(a:Int):=by rw[zM _ (by omega)];omega
 have y:((D.drop c).take 14).length=14:=by rw[Ni,Nk,C.o];omega
 have p:∀W:World,Below w w W->uM W (g,o+c,(a-c),(B-c)) ((D.drop c).take 14):=λW P=>by
  refine⟨by rw[wd,vB],zw ⟨g,o+c,B-c,by rw[y];congr 1;omega,λj x E=>?_⟩⟩;have R:j<14:=by have:=(zG.1 E).1;rw[wd,y]at this;exact this
  rw[ZP,no,zI,ze R,yy]at E;have i:g<w.heap.size:=zy (t _ _ E);rw[P.cell i,yp];exact t _ _ E
 obtain⟨S,J⟩:=zD (tu ((D.drop c).take 14));have l:Below w w (w.alloc (.cells #[.string {data:=#[]},()] 112)):=zB.alloc zL _;have K:=D9 (p _ l) (by rw[y];omega);rw[J.o]at K;have s:a<D.length:=by rw[C.o];omega
 have q:(u8s D)[a]?=some (.int .u8 f):=by rw[Ch D a s,<-A.o];unfold rdE;show some (Value.int .u8 D[a])=some (.int .u8 (D.getD (16*aa+14) 0));rw[n,z,zt,zk s];rfl
 have m:=t a _ q;have i:g<w.heap.size:=zy m;have r:(w.alloc (.cells #[.string {data:=#[]},()] 112)).cell? (g,o+a)=some (.int .u8 f):=by rw[l.cell i];exact m
 have k:(w.alloc (.cells #[.string F,f] 112)).drew.cell? (g,o+a)=some (.int .u8 f):=by have d:Below w w (w.alloc (.cells #[.string F,f] 112)):=zB.alloc zL _;rw[d.drew.cell i];exact m
 have G:0<=f/\f<=255:=by have d:=Ch D a s;rw[q]at d;injection d with d;injection d with _ d;rw[d];exact hD _ (Nj _)
 obtain⟨X,Z⟩:=G;have V:IntKind.i64.wrap f=f:=zM _ (by omega);have I:Hid (∀W:World,Calls prog 184 #[.string S,.string ⟨#[0]⟩] W <|ρ (.string F) λw'=>w'=W):=λW=>by
  have d:=Any.strings_TrimRight_one Tryz.lays162 S 0 (by decide) W (by rw[<-J.o,rj,y];omega);have O:(⟨(Lib.trimRightB S.data.toList 0).toArray⟩:ByteArray)=F:=by rw[<-u.o,<-J.o,<-n];rfl
  rw[O]at d;exact d
 have M:=za l;have Q:¬g=w.heap.size:=by omega
 clear h p t q m l y hD;go_enter func146,ntmps146;go_wp2;have kb:(a:Int)<(N:Int):=by omega
 refine te ?_
 go_region_held_law (λw'=>w'.cell? (g,o+a)=some (.int .u8 f)) (first|exact r|exact k|(go_keep;done)) (first|(go_at_call 184;refine (I.o _).mono ?_;rintro e w' ⟨rfl,rfl⟩))
 all_goals
  refine sL ?_;go_wp2
  go_returns
  exact⟨rfl,(zB.alloc zL _).drew⟩
end Go.Proofs.YtpcedcnjofbgjaaGreatDoor
namespace Go.Proofs.YtpcedcnjofbgjaaGreatDoor
open Go.Proofs.Tryz Go.RowKit
variable {B at_ base gb gn go gy k n size:Nat} {D:List Int} {e:TypeId} {name:ByteArray} {outs:List En} {r:Int×Nat×Int} {v:Value} {w w0:World} {xs:List Value}
section
variable {P : Program} {o : Oper} {a : Act} {w : World} {K : Act->World->Prop} {Q : Exit->Act->World->Prop}
theorem YO {ops:Array Oper} {X:Prop} (m:o.guard=none) (f) (xs) (ats) (n:o.op=.call {callee:=.value (.func f),args:=xs,argTypes:=ats})
 (p:∀args w,(callFunc f args).run P w=.ok (.enter f args) w) (args) (l:#[]++xs.map a.eval++#[]=args) (R:Value->World->Prop)
 (q:Calls P f args w λe w'=>∃v,e=.returned v/\R v w') (h:∀v w',R v w'->K (a.put o.dst v) w'):if Region.wanted o (yielded ops a.tmps)=true then Oper.wp P o a w K Q else X:=by
 rw[ze (by simp[Region.wanted,m])];have e:execOp a.eval o=callFunc f (#[]++xs.map a.eval++#[]):=by obtain⟨d,j,k,pos,b,c⟩:=o;simp only at n;subst n;rfl
 unfold Oper.wp;rw[e,l,p];exact q.mono λe w' ⟨v,g,i⟩=>by subst g;exact h v w' i
end
theorem kY (w:World) (o) (p) (h:p.block<w.heap.size):(w.alloc o).frozen? p=w.frozen? p:=((xW w w).alloc zL o).frozen h
structure gM (w0:World) (gn gy go gb n:Nat) (v:Value) (outs:List En) (w:World):Prop where
 z:w0.heap.size<=gn/\w0.heap.size<=gy/\w0.heap.size<=go/\w0.heap.size<=gb
 n:w.heap[gn]?=some (.cells #[n] 3)
 y:w.heap[gy]?=some (.cells #[.func (.func 145) #[] #[(gn,()),(gy,()),(go,()),(gb,())]] 120)
 b:w.heap[gb]?=some (.cells #[v] 38)
 o:∃ov,w.heap[go]?=some (.cells #[ov] 108)/\w.ownsRow w0 112 2 ov outs.length (ents outs)
 hb:Below w0 w0 w
def fS (w0:World) (gn gy go gb n:Nat) (v:Value) (D:List Int) (outs:List En) (at_:Nat) (e:Ending) (w':World):Prop:=
 e=.returned (.tuple #[])/\gM w0 gn gy go gb n v (outs++(ino n at_).map (rdE D)) w'
theorem gM.snoc {wR w4:World} {gg cap m:Nat} {ov:Value} {cs:Array Value} (h:gM w0 gn gy go gb n v outs w) (H:w.heap[go]?=some (.cells #[ov] 108)) (E:w.ownsRow w0 112 2 ov outs.length (ents outs))
 (F:Below w w wR) (x:En) (I:outs.length+1=m) (D:w4.ownsRow w0 112 2 (gg,0,m,cap) m (ents outs++[.string x.1,.int .i64 x.2]))
 (G:(wR.alloc (.cells cs 112)).grownBy w4 ov.ownBlock):gM w0 gn gy go gb n v (outs++[x]) (w4.setCell (go,0) (gg,0,m,cap)):=by
 have u:∀(i:Nat) (c:Array Value) (t:TypeId),w.heap[i]?=some (.cells c t)->t≠112->w4.heap[i]?=some (.cells c t):=λi c t f k=>by have A:=(F.block i (xB f)).trans f;have s:=un A (.cells cs 112);exact (G.block i (xB s) (λe=>rC E f (yA k) e.symm)).trans s
 have l:∀(i:Nat) (c:Array Value) (t:TypeId),w.heap[i]?=some (.cells c t)->t≠112->t≠108->(w4.setCell (go,0) (gg,0,m,cap)).heap[i]?=some (.cells c t):=λi c t f k o=>by rw[yj _ _ _ _ (ve f H o)];exact u i c t f k
 have d:=u go _ _ H (by decide);have B:w0.heap.size<=wR.heap.size:=zv h.hb.size F.size;have p:Below w0 w0 w4:=Cd ((zi h.hb F).alloc B _) G (by simp only[vt];omega) (λq j=>by
  obtain⟨_,⟨r,_⟩|⟨g,cap,C,r,G,_⟩⟩:=E
  .rw[r]at j;simp[Value.ownBlock]at j
  .rw[r]at j;have:g=q:=(by simpa[Value.ownBlock]using j);rw[<-this];exact G)
 have a:w4.ownsRow w0 112 2 (gg,0,m,cap) (outs++[x]).length (ents (outs++[x])):=by rw[zl,ro];show w4.ownsRow _ _ 2 _ (outs.length+1) (ents outs++[.string x.1,.int .i64 x.2]);rw[I];exact D
 refine⟨h.z,l _ _ _ h.n (by decide) (by decide),l _ _ _ h.y (by decide) (by decide),l _ _ _ h.b (by decide) (by decide),⟨_,?_,tI a λb F=>?_⟩,p.setCell h.z.2.2.1 _⟩
 .rw[tf _ _ _ _ _ _ _ d,ya _ _ _ _ _ _ d];rfl
 .exact yj _ _ _ _ (λe=>rC D d (by decide) (by rw[F,e]))
theorem gM.drew (h:gM w0 gn gy go gb n v outs w):gM w0 gn gy go gb n v outs w.drew:=⟨h.z,h.n,h.y,h.b,h.o,h.hb.drew⟩
theorem LX (w0:World) (gn gy go gb n:Nat) (v:Value) (D:List Int) (al:mU w0 v D) (am:tL D) (hn:16*n=D.length) (ao:n<=32):∀(f at_:Nat) (outs:List En) (w:World),n<=at_+f->outs.length+(ino n at_).length<=32->at_<=1000->gM w0 gn gy go gb n v outs w ->
 Calls prog 145 #[at_,(gn,()),(gy,()),(go,()),(gb,())] w (fS w0 gn gy go gb n v D outs at_):=by
 have HV:=za al;have HD:=za am;have M:=za hn;clear al am hn;obtain⟨i0,ad,S,af,A⟩:=yX OY;have HI:=za ad;have a6:=za S;have a7:=za af;have aw:=za A;clear ad S af A;have C:∀(at_:Nat) (outs:List En) (w:World),n<=at_->gM w0 gn gy go gb n v outs w->Calls prog 145 #[at_,(gn,()),(gy,()),(go,()),(gb,())] w (fS w0 gn gy go gb n v D outs at_):=by
  intro at_ outs w G h;have c1:w.cell? (gn,0)=some (.int .i64 (n:Int)):=zC h.n;have aP:¬(at_:Int)<(n:Int):=by omega
  have HE:Hid (fS w0 gn gy go gb n v D outs at_ (.returned (.tuple #[])) w):=by refine⟨rfl,?_⟩;rw[Vv G,vS,yY];exact h
  clear h;go_enter func145,ntmps145;go_wp2
  go_returns
  exact HE.o
 have m:=za C;clear C;intro f
 induction f with
 | zero=>exact λat_ outs w h1 _ _ E=>m.o at_ outs w (by omega) E
 | succ f ih=>
  intro at_ outs w h1 h2 h4 E;by_cases G:n<=at_
  .exact m.o at_ outs w G E
  have au:at_<n:=by omega
  have d:=i8 au;obtain⟨L,HL⟩:=zD (ino n (2*at_+1));obtain⟨R,HR⟩:=zD (ino n (2*at_+2));rw[HL.o,HR.o]at d;obtain⟨a1,r⟩:=zD (2*at_+1);obtain⟨a2,z⟩:=zD (2*at_+2);rw[r.o]at HL;rw[z.o]at HR;have B:(ino n at_).length=L.length+(R.length+1):=by rw[d];simp
  rw[B]at h2;have a3:=za d;have i1:=ih a1 outs w (by have:=r.o;omega) (by rw[HL.o];omega) (by have:=r.o;omega) E;have I1:=za i1;have I2:Hid (∀(V:List En) (w:World),V.length=outs.length+L.length+1->gM w0 gn gy go gb n v V w->Calls prog 145 #[a2,(gn,()),(gy,()),(go,()),(gb,())] w (fS w0 gn gy go gb n v D V a2)):=λV w ho hw=>ih a2 V w (by have:=z.o;omega) (by rw[HR.o];omega) (by have:=z.o;omega) hw;have c1:w.cell? (gn,0)=some (.int .i64 (n:Int)):=zC E.n;have c2:w.cell? (gy,0)=some (.func (.func 145) #[] #[(gn,()),(gy,()),(go,()),(gb,())]):=zC E.y;have w1:=zW (2*(at_:Int)) (by omega);have q:IntKind.i64.wrap (2*(at_:Int)+1)=(a1:Int):=by rw[zM _ (by omega)];have:=r.o;omega
  have w3:IntKind.i64.wrap (2*(at_:Int)+2)=(a2:Int):=by rw[zM _ (by omega)];have:=z.o;omega
  have aG:(at_:Int)<(n:Int):=by omega
  clear ih i1 h1 h4 E d B;go_enter func145,ntmps145;go_wp2_with fail
  refine I1.out.mono ?_;rintro e i ⟨rfl,x⟩;rw[HL.o]at x;obtain⟨o1,H⟩:=zD (outs++L.map (rdE D));rw[H.o]at x;have P:o1.length=outs.length+L.length:=by rw[<-H.o];simp
  have ax:=za P;obtain⟨M1,J⟩:=zD o1.length;have aH:M1<=31:=by have:=J.o;omega
  clear P;obtain⟨ov,g,s⟩:=x.o;have k:=s;rw[J.o]at k;have ag:=za k;clear k;obtain⟨x1,Z⟩:=zD ((rdE D at_).1);obtain⟨N,K⟩:=zD ((rdE D at_).2);have l:=Ez v D i.drew (HV.o.below x.hb.drew) HD.o at_ (by have:=M.o;omega) (by have:=M.o;omega);rw[Z.o,K.o]at l;have aa:Hid (Calls prog 146 #[v,at_] i.drew λe w'=>∃u,e=.returned u/\u=.agg #[.string x1,N]/\Below i.drew.heap.size i.drew w'):=l.mono λe w' ⟨h1,h2⟩=>⟨_,h1,rfl,h2⟩;have k0:i.cell? (go,0)=some ov:=zC g;have f0:i.frozen? (go,0)=false:=zF g;have kb:i.cell? (gb,0)=some v:=zC x.b;have F:go<i.heap.size:=xB g;have az:gb<i.heap.size:=xB x.b;have HA:=za x;have av:=za g;have aq:=za s;have a5:w0.heap.size<=i.heap.size:=x.hb.size;have NE:=za (rC s g (by decide));clear x g s l c1 c2;go_wp2
  go_region_law (first
   | (refine YO ?_ 146 #[.tmp 15,.tmp 16] #[38,3] ?_ (λ_ _=>by kernel_rfl) #[v,at_] ?_ _ aa.o ?_;(rfl);(rfl);(kernel_rfl);rintro _ q ⟨rfl,c⟩;have k2:q.cell? (go,0)=some ov:=(c.cell (p:=⟨go,0,none⟩) F).trans k0;have f2:q.frozen? (go,0)=false:=(c.frozen (p:=⟨go,0,none⟩) F).trans f0;have b2:q.cell? (gb,0)=some v:=(c.cell (p:=⟨gb,0,none⟩) az).trans kb;have kz:go<q.heap.size:=zr F c.size;have kn:¬go=q.heap.size:=pg kz;have U:Hid (q.ownsRow w0 112 2 ov M1 (ents o1)):=tt (w:=i.drew) ag.o c;have A:w0.heap.size<=q.heap.size:=zv a5 c.size;have W:=za c;clear c)
   | (
    refine ut _ (by rfl) _ _ _ (by rfl) w0.heap.size 112 i0 _ 2 24 D6 HI.o a6.o a7.o aw.o rfl (by omega) ov M1 (ents o1) (by rfl) (U.o.alloc _)
     ⟨q.heap.size,0,none⟩ 1 1 [.string x1,.int .i64 N] (by rfl) (by rfl) (xF (cs:=#[.string x1,.int .i64 N]) (t:=112) (fr:=(0,0)) (zO q _)) (by simp[Value.oneCell'])
     (by omega) (by unfold maxLen;omega) (by omega) (by simp only[vt];omega) (q.heap.size+1) (by simp only[vt]) ?_;intro gg ab w4 j a T Q
    have k4:w4.cell? (go,0)=some ov:=(by rw[a.cell_far _ (by simp only[vt];omega) (yA NE.out),xR _ _ _ kz];exact k2);have f4:w4.frozen? (go,0)=false:=(by rw[a.frozen_far _ (by simp only[vt];omega) (yA NE.out),kY _ _ _ kz];exact f2);have X:=za j;have Y:=za a;clear j a T))
  all_goals
   have hS:=HA.o.drew.snoc (w:=i.drew) av.o aq.o W.o (x1,N) (by rw[J.o]) X.o Y.o;have a4:(x1,N)=rdE D at_:=(by rw[<-Z.o,<-K.o]);rw[a4]at hS;obtain⟨w5,ae⟩:=zD (w4.setCell (go,0) (gg,0,(M1+1),ab));rw[ae.o]at hS |-;have c5:w5.cell? (gy,0)=some (.func (.func 145) #[] #[(gn,()),(gy,()),(go,()),(gb,())]):=zC hS.y;have I:=za (I2.out _ _ (by rw[zl,ax.o];rfl) hS);clear hS k4 f4 ae X Y Q k2 f2 b2 kz kn U A W;go_wp2_with fail
   refine I.o.mono ?_;rintro e w6 ⟨rfl,h6⟩;have O:Hid (fS w0 gn gy go gb n v D outs at_ (.returned (.tuple #[])) w6):=(by refine⟨rfl,?_⟩;rw[HR.o,<-H.o]at h6;rw[a3.o,yo,yB];simpa using h6);clear h6;go_wp2
   go_returns
   exact O.o
def ListOk (D:List Int) (w:World) (e:Ending) (w':World):Prop:=∃v,e=.returned (.tuple #[v,()])/\w'.ownsRow w 112 2 v (outD D).length (ents (outD D))/\Below w w w'
def DV (w:World) (e:Ending) (w':World):Prop:=e=.returned (.tuple #[.slice none 0 0,(3:Int)])/\Below w w w'
theorem Nv (h:uM w v D) (N) (e:D.length=N):∃p cp,v=.slice p N cp:=by
 subst e;obtain⟨_,⟨d,b,c,rfl⟩|⟨g,o,a,rfl,_⟩⟩:=h
 .exact⟨b,c,by rw[d]⟩
 .exact⟨_,a,rfl⟩
theorem pO (h:w.ownsRow base e size v n xs):FW v:=by
 intro p j c a;obtain⟨_,⟨rfl,k⟩|⟨g,f,b,rfl,_,_,l,_⟩⟩:=h
 .injection a with _ i d;omega
 .injection a with _ i d;omega
theorem Do (v) (D) (w) (h:mU w v D) (j:D.length<=1000000) (i:D.length%16≠0\/512<D.length):
 Calls prog 105 #[v] w (DV w):=by
 obtain⟨N,d⟩:=zD D.length;obtain⟨p,g,rfl⟩:=Nv h.1 N d.o;rw[d.o]at j i;have b:Hid (Below w w (w.alloc (.cells #[(p,N,g)] 38))):=zB.alloc zL _;clear h;obtain⟨r,c⟩:=zD (N%16);have e:(N:Int).tmod 16=r:=by rw[<-c.o];rfl
 by_cases a:r=0
 .subst a;have f:512<(N:Int):=by have:=c.o;omega
  go_enter func105,ntmps105
  go_wp2
  go_returns
  exact⟨rfl,b.o⟩
 .have f:¬(r:Int)=0:=by omega
  go_enter func105,ntmps105
  go_wp2
  go_returns
  exact⟨rfl,b.o⟩
def P7 (D:List Int) (w:World) (e:Ending) (w':World):Prop:=(oB D=true/\ListOk D w e w')\/(oB D=false/\DV w e w')
theorem LW (v:Value) (D:List Int) (w:World) (h:mU w v D) (hD:tL D) (hm:D.length%16=0) (aa:D.length<=512):
 Calls prog 105 #[v] w (P7 D w):=by
 obtain⟨N,F⟩:=zD D.length;obtain⟨p,K,rfl⟩:=Nv h.1 N F.o;rw[F.o]at hm aa;obtain⟨n,Hn⟩:=zD (N / 16);have ap:(N:Int).tmod 16=0:=by show ((N%16:Nat):Int)=0;rw[hm];rfl
 have an:(N:Int).tdiv 16=(n:Int):=by rw[<-Hn.o];rfl
 have h5:¬(512:Int)<(N:Int):=by omega
 have g:n<=32:=by have:=Hn.o;omega
 have u:16*n=D.length:=by rw[F.o];have:=Hn.o;omega
 obtain⟨x,i⟩:=zD ((((w.alloc (.cells #[(p,N,K)] 38)).alloc (.cells #[n] 3)).alloc (.cells #[.slice none 0 0] 108)).alloc (.cells #[.func (.func 145) #[] #[.pointer (some ⟨w.heap.size+1,0,none⟩),.pointer (some ⟨w.heap.size+1+1+1,0,none⟩),.pointer (some ⟨w.heap.size+1+1,0,none⟩),(w.heap.size,())]] 120));have Z:Below w w x:=by rw[<-i.o];exact (((zB.alloc zL _).alloc (by simp only[vt];omega) _).alloc (by simp only[vt];omega) _).alloc (by simp only[vt];omega) _
 have P:x.heap[w.heap.size]?=some (.cells #[(p,N,K)] 38):=by rw[<-i.o,sX (by simp only[vt];omega),sX (by simp only[vt];omega),sX (by simp only[vt];omega),Rz rfl]
 have S:x.heap[w.heap.size+1]?=some (.cells #[n] 3):=by rw[<-i.o,sX (by simp only[vt];omega),sX (by simp only[vt];omega),Rz (by simp only[vt])]
 have Q:x.heap[w.heap.size+1+1]?=some (.cells #[.slice none 0 0] 108):=by rw[<-i.o,sX (by simp only[vt];omega),Rz (by simp only[vt])]
 have M:x.heap[w.heap.size+1+1+1]?=some (.cells #[.func (.func 145) #[] #[.pointer (some ⟨w.heap.size+1,0,none⟩),.pointer (some ⟨w.heap.size+1+1+1,0,none⟩),.pointer (some ⟨w.heap.size+1+1,0,none⟩),(w.heap.size,())]] 120):=by rw[<-i.o,Rz (by simp only[vt])]
 have U:gM w (w.heap.size+1) (w.heap.size+1+1+1) (w.heap.size+1+1) w n (p,N,K) [] x:=
  ⟨⟨by omega,by omega,by omega,zL⟩,S,M,P,⟨_,Q,⟨rfl,zu ⟨rfl,rfl⟩⟩⟩,Z⟩
 have f:=LX w (w.heap.size+1) (w.heap.size+1+1+1) (w.heap.size+1+1) w n (p,N,K) D h hD u g n 0 [] x (by omega) (by rw[(N7 g).2.1];simpa using g) (by omega) U;rw[show ((0:Nat):Int)=0 from rfl]at f;have C:=za f;have k:[]++(ino n 0).map (rdE D)=outD D:=by unfold outD;rw[F.o,Hn.o,yJ]
 have R:=za k;have O:Hid ((outD D).length=n):=by show _=_;rw[<-k,yJ,yD,(N7 g).2.1]
 have ah:=za h;have HH:Hid (D.length%16=0/\D.length<=512/\D.length=16*n):=by rw[F.o];exact⟨hm,aa,by rw[<-F.o,u]⟩
 clear h hm aa Z P S Q M U f k;go_enter func105,ntmps105;go_wp2_with fail
 rw[i.o];refine C.o.mono ?_;rintro e w2 ⟨rfl,I⟩;rw[R.o]at I;obtain⟨l,m,j⟩:=I.o;have k0:w2.cell? (w.heap.size+1+1,0)=some l:=zC m;have E:=I.hb;have G:=I.b;have z:=za m;have X:=za G;have ai:=za j;have V:=za E;have s:WX w2 l (outD D):=⟨uq.of_owns j,pO j⟩;by_cases J:ud (outD D)=0
 .have HL:=za (lay_ok l (outD D) w2 s J);have HR:=za J;clear I m G j E s J;go_wp2_with fail
  refine HL.o.mono ?_;rintro e t ⟨c,rfl,hc,a⟩;have y:(layD (outD D)).length=D.length:=by rw[PN HR.o,O.o,HH.o.2.2]
  have kb:t.cell? (w.heap.size,0)=some (.slice p N K):=(a.cell (p:=⟨w.heap.size,0,none⟩) (xB X.o)).trans (zC X.o);have ko:t.cell? (w.heap.size+1+1,0)=some l:=(a.cell (p:=⟨w.heap.size+1+1,0,none⟩) (xB z.o)).trans (zC z.o);have H:=zi V.o a;have A:=PW c (p,N,K) (layD (outD D)) D t hc.1 (ah.o.below H).1 y (by rw[y,F.o];omega);obtain⟨b,Hb⟩:=zD (RT (layD (outD D)) D);rw[Hb.o]at A;have ae:=za A;have B:=za H;have af:Hid (t.ownsRow w 112 2 l (outD D).length (ents (outD D))):=tt ai.o a;have W:w.heap.size+1+1<t.heap.size:=zr (xB z.o) a.size;clear hc a y H A;go_wp2_with fail
  refine ae.o.mono ?_;rintro e L ⟨rfl,q⟩;have k4:L.cell? (w.heap.size+1+1,0)=some l:=(q.cell (p:=⟨w.heap.size+1+1,0,none⟩) W).trans ko;have Y:Hid (Below w w L):=zi B.o q;have ak:Hid (L.ownsRow w 112 2 l (outD D).length (ents (outD D))):=tt af.o q;clear q;cases b with
  | true=>
   have d:Hid (P7 D w (.returned (.tuple #[l,()])) L):=(by refine zu ⟨(ND D).2 ⟨HH.o.1,HH.o.2.1,HR.o,?_⟩,⟨l,rfl,ak.o,Y.o⟩⟩;have:=Hb.o;unfold RT at this;simpa using this);go_wp2
   go_returns
   exact d.o
  | false=>
   have d:Hid (P7 D w (.returned (.tuple #[.slice none 0 0,(3:Int)])) L):=by
    refine zw ⟨?_,⟨rfl,Y.o⟩⟩;cases hq:oB D with
    | false=>rfl
    | true=>
     have h1:=((ND D).1 hq).2.2.2;have:=Hb.o;unfold RT at this;simp[h1]at this
   go_wp2
   go_returns
   exact d.o
 .obtain⟨r,Hr⟩:=zD (ud (outD D));have T:=J;rw[Hr.o]at T;have HL:=za (CP l (outD D) w2 s (by rw[O.o];omega) r Hr.o T);have HR:=za J;clear I m G j E s J;go_wp2_with fail
  refine HL.o.mono ?_;rintro e t ⟨rfl,a⟩;have B:Hid (Below w w t):=zi V.o a;have d:Hid (P7 D w (.returned (.tuple #[.slice none 0 0,(3:Int)])) t):=by
   refine zw ⟨?_,⟨rfl,B.o⟩⟩;cases hq:oB D with
   | false=>rfl
   | true=>exact yi ((ND D).1 hq).2.2.1 HR.o
  clear a;go_wp2
  go_returns
  exact d.o
theorem mF (v:Value) (D:List Int) (w:World) (h:mU w v D) (f:tL D) (g:D.length<=1000000):Calls prog 105 #[v] w (P7 D w):=by
 by_cases a:D.length%16=0/\D.length<=512
 .exact LW v D w h f a.1 a.2
 .refine (Do v D w h g (by omega)).mono λe d c=>zw ⟨?_,c⟩;cases b:oB D with
  | false=>rfl
  | true=>exact yi ⟨((ND D).1 b).1,((ND D).1 b).2.1⟩ a
def Zw (D:List Int) (n:Nat) (name:ByteArray):Nat->Nat->Nat->Int×Nat×Int
 | 0,_,k=>(0,k,4)
 | f+1,at_,k=>if at_<n then (if cmpB name (rdE D at_).1=0 then ((rdE D at_).2,k+1,0) else if cmpB name (rdE D at_).1<0 then Zw D n name f (2*at_+1) (k+1) else Zw D n name f (2*at_+2) (k+1)) else (0,k,4)
def rI (D:List Int) (name:ByteArray):Int×Nat×Int:=Zw D (D.length / 16) name 7 0 0
def YC (r:Int×Nat×Int) (w:World) (e:Ending) (w':World):Prop:=e=.returned (.tuple #[r.1,(r.2.1:Int),r.2.2])/\Below w w w'
theorem D5 (a b):cmpB a b = -1\/cmpB a b=0\/cmpB a b=1:=by
 unfold cmpB;split
 .exact zu rfl
 .split
  .exact zw (zu rfl)
  .exact zw (zw rfl)
def Ti (D:List Int) (n:Nat) (name:ByteArray) (r:Int×Nat×Int) (at_ k:Nat):Prop:=Zw D n name (7-k) at_ k=r/\2 ^ k<=at_+1/\k<=7
theorem Ti.stop (h:Ti D n name r at_ k) (b:n<=at_):r=(0,k,4):=by
 obtain⟨a,_,_⟩:=h;rw[<-a];cases 7-k with
 | zero=>rfl
 | succ f=>rw[Zw,zb (by omega)]
theorem Ti.small (h:Ti D n name r at_ k) (d:at_<n) (e:n<=32):k<=5:=by
 obtain⟨_,b,c⟩:=h;rcases pj 5 k with a|a
 .have:2 ^ 6<=2 ^ k:=Nat.pow_le_pow_right (by omega) a;omega
 .exact a
theorem Ti.step (h:Ti D n name r at_ k) (c:at_<n) (d:n<=32):r=if cmpB name (rdE D at_).1=0 then ((rdE D at_).2,k+1,0) else if cmpB name (rdE D at_).1<0 then Zw D n name (7-(k+1)) (2*at_+1) (k+1) else Zw D n name (7-(k+1)) (2*at_+2) (k+1):=by
 have b:=h.small c d;obtain⟨a,_,_⟩:=h;have e:7-k=(7-(k+1))+1:=by omega
 rw[e,Zw,ze c]at a;exact a.symm
theorem Lm (v:Value) (D:List Int) (name:ByteArray) (w:World) (h:mU w v D) (hD:tL D) (aa:oB D=true):
 Calls prog 108 #[v,.string name] w (YC (rI D name) w):=by
 obtain⟨hm,B,_,_⟩:=(ND D).1 aa;obtain⟨N,R⟩:=zD D.length;obtain⟨p,cp,rfl⟩:=Nv h.1 N R.o;have X:=za (mF (p,N,cp) D w h hD (by omega));obtain⟨n,Hn⟩:=zD (N / 16);rw[R.o]at hm B;have m:N=16*n:=by have:=Hn.o;omega
 have q:n<=32:=by omega
 have y:=za m;obtain⟨r,Hr⟩:=zD (rI D name);rw[Hr.o];have ac:Hid (Ti D n name r 0 0):=by refine⟨?_,by omega,by omega⟩;have:=Hr.o;unfold rI at this;rw[R.o,Hn.o]at this;exact this
 have ad:=za h;have HD:=za hD;have ab:=za aa;clear h hD aa hm m;go_enter func108,ntmps108;go_wp2_with fail
 refine X.o.mono ?_;intro e w1 P;obtain⟨_,ov,rfl,_,U⟩|⟨s,_⟩:=P;case inr=>rw[ab.o]at s;cases s
 have ae:=za U;clear U;go_wp2;go_loopw [5,9] (λs5 Y wr=>∃a k:Nat,a<=1000/\k<=7/\Y=.int .i64 (a:Int)/\s5=.int .i64 (k:Int)/\Hid (Ti D n name r a k)/\Below w w wr) (λs5 Y _=>n-(intOf Y).toNat)
 .exact⟨0,0,by omega,by omega,rfl,rfl,ac,ae.o⟩
 .obtain⟨a,k,ax,hk,rfl,rfl,j,HB⟩:=hrel;obtain⟨u,am⟩:∃b,16*a=b:=⟨_,rfl⟩;have w4:IntKind.i64.wrap (16*(a:Int))=(u:Int):=by rw[zM _ (by omega)];omega
  by_cases F:a<n
  .have E:(u:Int)<(N:Int):=(by have:=y.o;omega);obtain⟨z,l⟩:=zD (k+1);obtain⟨K,f⟩:=zD (2*a+1);obtain⟨S,g⟩:=zD (2*a+2);have w0:IntKind.i64.wrap ((k:Int)+1)=(z:Int):=(by rw[zM _ (by omega)];have:=l.o;omega);have w1:IntKind.i64.wrap (2*(a:Int))=2*(a:Int):=zM _ (by omega);have w2:IntKind.i64.wrap (2*(a:Int)+1)=(K:Int):=(by rw[zM _ (by omega)];have:=f.o;omega);have w3:IntKind.i64.wrap (2*(a:Int)+2)=(S:Int):=(by rw[zM _ (by omega)];have:=g.o;omega);obtain⟨T,L⟩:=zD ((rdE D a).1);obtain⟨x2,C⟩:=zD ((rdE D a).2);have i:=Ez (p,N,cp) D wr (ad.o.below HB) HD.o a (by rw[R.o];have:=y.o;omega) (by rw[R.o];omega);rw[L.o,C.o]at i;have O:=za i;obtain⟨c,Hc⟩:=zD (cmpB name T);have G:Hid (∀W:World,Calls prog 148 #[.string name,.string T] W λe w'=>e=.returned c/\W=w'):=λW=>(by rw[<-Hc.o];exact Sx name T W);have t:=j.o.step F q;rw[L.o,C.o,Hc.o,l.o,f.o,g.o]at t;have av:=j.o.small F q;have A:=za t;have M:2 ^ z<=K+1:=(by have h1:=j.o.2.1;rw[<-l.o,Nat.pow_succ];have:=f.o;omega);have Z:=za M;have d:z<=7:=(by have:=l.o;omega);have V:K<=1000:=(by have:=f.o;omega);have ah:S<=1000:=(by have:=g.o;omega);have ay:n-K<n-a:=(by have:=f.o;omega);have ar:n-S<n-a:=(by have:=g.o;omega);have Q:Hid (2 ^ z<=S+1):=(by show _<=_;have:=f.o;have:=g.o;omega);have H:=D5 name T;rw[Hc.o]at H;clear i t M;go_wp2_with fail
   refine O.o.mono ?_;rintro e w2 ⟨rfl,J⟩;have I:Hid (Below w w w2):=zi HB J;have x:Hid (Below w w (w2.alloc (.cells #[.string T,x2] 112))):=I.o.alloc I.o.size _;clear J;go_wp2_with fail
   refine (G.o _).mono ?_;rintro e w' ⟨rfl,rfl⟩;rcases H with rfl|rfl|rfl
   .go_wp2;go_roundw
    .exact⟨K,z,V,d,rfl,rfl,⟨by rw[A.o];rfl,Z.o,d⟩,x.o⟩
    .simp[intOf];omega
   .have hr:r=(x2,z,0):=(by rw[A.o];rfl);subst hr;go_wp2
    go_returns
    exact⟨rfl,x.o⟩
   .go_wp2;go_roundw
    .exact⟨S,z,ah,d,rfl,rfl,⟨by rw[A.o];rfl,Q.o,d⟩,x.o⟩
    .simp[intOf];omega
  .have E:¬(u:Int)<(N:Int):=(by have:=y.o;omega);have hr:=j.o.stop (by omega);subst hr;go_wp2
   go_returns
   exact⟨rfl,HB⟩
theorem entZ: ∀w,(zeroValue 112).run prog w=.ok (.agg #[.string {data:=#[]},()]) w:=λ_=>by kernel_rfl
section
variable {P : Program}
theorem Zj (w) (t e) (l:P.underlying t=some (.slice e)) (j:∀w,(zeroValue e).run P w=.ok (.agg #[.string {data:=#[]},()]) w)
 (g o n c) (cur) (ct) (q:0<n) (p:w.heap[g]?=some (.cells cur ct)) (k:o+n*2<=cur.size):
 ∃zs,zs.length=n*2/\∀ty,(Builtin.clear_ #[t] ty #[.slice (some ⟨g,o,none⟩) n c]).run P w=.ok (.tuple #[]) (w.setRow g (cur.toList.take o++zs++cur.toList.drop (o+zs.length)).toArray):=by
 have a:((Builtin.zeroCells #[.string {data:=#[]},()] n).toList).length=n*2:=by rw[ye,sJ];rfl
 have d:∀v∈(Builtin.zeroCells #[.string {data:=#[]},()] n).toList,v.oneCell'=true:=by intro v j;simp only[Builtin.zeroCells,Array.toList_map,yd]at j;obtain⟨i,_,rfl⟩:=j;have f:i%2<2:=qf _ (by omega);show (#[Value.string {data:=#[]},Value.int .i64 0][i%2]!).oneCell'=true;rcases (by omega:i%2=0\/i%2=1) with h|h<;>rw[h]<;>rfl
 refine⟨_,a,λty=>?_⟩;have b:=wS P g o ct (Builtin.zeroCells #[.string {data:=#[]},()] n).toList 0 cur w p (by rw[a];omega) d;simp only[va]at b;obtain⟨m,rfl⟩:∃m,n=m+1:=⟨n-1,by omega⟩;simp[Builtin.clear_,wP l,j,Value.cells,b]
end
theorem jf {a:World} (h:Below B a w) {g:Nat} (c:B<=g) (cs:Array Value):Below B a (w.setRow g cs):=
 ⟨h.os,h.tape,h.output,by have:=h.size;simp only[World.setRow,py];exact this,λk b=>by rw[yO _ _ _ _ (by omega)];exact h.block k b⟩
theorem KZ (aa:Nat) (v:Value) (l:List En) (w:World) (ab:w.ownsRow aa 112 2 v l.length (ents l)) (i:Nat) (hi:i<l.length) (hl:l.length<=1000000) (j:Nat) (hj:i+1=j) (ad:aa<=w.heap.size):
 Calls prog 153 #[v,i,j] w λe w'=>∃v',e=.returned v'/\w'.ownsRow aa 112 2 v' (l.eraseIdx i).length (ents (l.eraseIdx i))/\Below aa w w':=by
 have _:=ad;obtain⟨n,M⟩:=zA l.length;rw[<-M.o]at hi hl ab;obtain⟨m,r⟩:∃m,Hid (m+1=n):=⟨n-1,by show _=_;omega⟩;obtain⟨an,⟨_,h0⟩|⟨g,c,a,rfl,T,Z,hc,W,hs,Y⟩⟩:=ab
 .omega
 obtain⟨i0,av,ao,ax,au⟩:=yX OY;have k:(l.eraseIdx i).length=m:=by rw[List.length_eraseIdx,ze (by rw[<-M.o];exact hi),<-M.o];have:=r.o;omega
 have J:ents (l.eraseIdx i)=ents (l.take i)++ents (l.drop j):=by rw[List.eraseIdx_eq_take_drop_succ,ro,hj]
 have N:(ents (l.take i)).length=i*2:=by rw[NO,Ni,<-M.o];congr 1;omega
 have d:(ents (l.drop j)).length=(n-j)*2:=by rw[NO,Nk,<-M.o]
 have h:∀(q:Nat) (u:Value),(ents (l.drop j))[q]?=some u->w.drew.cell? (g,j*2+q)=some u:=λq u hq=>by
  have ae:=(zG.1 hq).1;rw[d]at ae;show w.cell? (g,j*2+q)=some u;rw[zC Z];have e:ents l=ents (l.take j)++ents (l.drop j):=by rw[<-ro,xr]
  have e2:(ents (l.take j)).length=j*2:=by rw[NO,Ni,<-M.o];congr 1;omega
  have D:(ents l)[j*2+q]?=some u:=by rw[e,zx (by omega),e2,show j*2+q-j*2=q by omega];exact hq
  rw[<-Y,zI,ze (by omega)]at D;simpa using D
 have B:∀(b o q:Nat),(⟨b,o,none⟩:Addr).add q=⟨b,o+q,none⟩:=λb o q=>by unfold Addr.add;split<;>simp_all
 have ap:i+(n-j)=m:=by have:=r.o;omega
 obtain⟨t,I⟩:=zD ((a.toList.take (i*2)++ents (l.drop j)++a.toList.drop (i*2+(n-j)*2)).toArray);have F:(loadCellsFrom ⟨g,j*2,none⟩ 0 ((n-j)*2) #[]).run prog w.drew=.ok (ents (l.drop j)).toArray w.drew:=by have:=uV (P:=prog) (w:=w.drew) ⟨g,j*2,none⟩ (ents (l.drop j)) (λq u hq=>by rw[B];exact h q u hq);rw[d]at this;exact this
 have f:(storeCells ⟨g,i*2,none⟩ (ents (l.drop j))).run prog w.drew=.ok () (w.drew.setRow g t):=by have:=wS (P:=prog) g (i*2) 112 (ents (l.drop j)) 0 a w.drew Z (by rw[d,hs];omega) (Tw _);rw[d,va,I.o]at this;exact this
 have p:t.size=c*2:=by rw[<-I.o];simp only[uj,zl,Ni,Nk,d,ye,hs];omega
 have z:t.toList.take (m*2)=ents (l.eraseIdx i):=by
  rw[<-I.o,J];have e1:(a.toList.take (i*2))=ents (l.take i):=by
   have e:ents l=ents (l.take i)++ents (l.drop i):=(by rw[<-ro,xr]);have D:=zQ (List.take (i*2)) Y;rw[we,e,yC (by omega),zo (l:=ents (l.take i)) (by omega)]at D;rw[<-D]
   congr 1
   omega
  rw[e1];have h2:(ents (l.take i)++ents (l.drop j)).length=m*2:=by rw[zl,N,d];omega
  rw[yC (by omega),zo (by omega)]
 have x:(w.drew.setRow g t).heap[g]?=some (.cells t 112):=ya _ _ _ _ _ _ Z;obtain⟨w2,R⟩:=zD (w.drew.setRow g t);rw[R.o]at f x;obtain⟨zs,Q,C⟩:=Zj (P:=prog) w2 108 112 D6 entZ g (m*2) (n-m) (c-m) t 112 (by have:=r.o;omega) x (by rw[p];have:=r.o;omega);obtain⟨w3,L⟩:=zD (w2.setRow g (t.toList.take (m*2)++zs++t.toList.drop (m*2+zs.length)).toArray);rw[L.o]at C;have S:Hid (w3.ownsRow aa 112 2 (g,0,m,c) (l.eraseIdx i).length (ents (l.eraseIdx i))/\Below aa w w3):=by
  constructor
  .rw[k];refine⟨by rw[NO,k],zw ⟨g,c,_,rfl,T,by rw[<-L.o];exact ya _ _ _ _ _ _ x,by have:=r.o;omega,W,?_,?_⟩⟩
   .simp only[uj,zl,Ni,Nk,Q,ye,p];have:=r.o;omega
   .rw[z];have h2:(ents (l.eraseIdx i)).length=m*2:=(by rw[NO,k]);rw[zR,yC (by omega),zo (by omega)]
  .rw[<-L.o,<-R.o];exact jf (jf zB.drew T _) T _
 have k1:¬(i:Int)=(j:Int):=by omega
 have k2:(i:Int)<=(j:Int):=by omega
 have k3:(j:Int)<=(n:Int):=by omega
 have k4:(n:Int)<=(c:Int):=by omega
 have k5:(i:Int)<=(c:Int):=by omega
 have k6:(m:Int)<=(n:Int):=by have:=r.o;omega
 have k7:¬c=m:=by have:=r.o;omega
 have k8:¬n=i:=by omega
 have k9:¬c=i:=by omega
 have V:=za Z;have af:=za J;have HT:=za Y;have X:=za hs;have s:=za N;have U:=za k;clear h B k J N d Y hs p z x Q;by_cases ac:c=j
 .have ag:n=j:=by omega
  have K:i=m:=by have:=r.o;omega
  obtain⟨y,A,H⟩:=Zj (P:=prog) w.drew 108 112 D6 entZ g (i*2) (n-i) (j-i) a 112 (by omega) V.o (by rw[X.o];omega);obtain⟨w4,G⟩:=zD (w.drew.setRow g (a.toList.take (i*2)++y++a.toList.drop (i*2+y.length)).toArray);rw[G.o]at H;have E:Hid (w4.ownsRow aa 112 2 (g,0,i,j) (l.eraseIdx i).length (ents (l.eraseIdx i))/\Below aa w w4):=by
   have O:l.drop j=[]:=vd (by rw[<-M.o];omega);have e0:ents (l.eraseIdx i)=ents (l.take i):=(by rw[af.o,O];simp[ents]);have e1:a.toList.take (i*2)=ents (l.take i):=by
    have e:ents l=ents (l.take i)++ents (l.drop i):=(by rw[<-ro,xr]);have D:=zQ (List.take (i*2)) HT.o;rw[we,e,yC (by rw[s.o];exact zL),zo (l:=ents (l.take i)) (by rw[s.o];exact zL)]at D;rw[<-D]
    congr 1
    omega
   constructor
   .rw[U.o];refine⟨by rw[NO,U.o],zw ⟨g,j,_,by rw[K],T,by rw[<-G.o];exact ya _ _ _ _ _ _ V.o,by have:=r.o;omega,by rw[<-ac];exact W,?_,?_⟩⟩
    .simp only[uj,zl,Ni,Nk,A,ye,X.o];omega
    .rw[e0,<-K];show ((a.toList.take (i*2)++y++a.toList.drop (i*2+y.length))).take (i*2)=_;rw[e1,zR,yC (by rw[s.o];exact zL),zo (by rw[s.o];exact zL)]
   .rw[<-G.o];exact jf zB.drew T _
  have ah:n-j=0:=by omega
  clear F f C A ag K;go_enter func153,ntmps153;go_wp2
  go_still_tail 6,(by kernel_rfl)
  go_wp2_with fail
  go_ret;exact⟨_,rfl,E.o⟩
 .go_enter func153,ntmps153
  go_wp2
  go_still_tail 6,(by kernel_rfl)
  go_wp2;go_ret;exact⟨_,rfl,S.o⟩
def vA (D:List Int) (x:En):Int:=if okE x=false then 3 else if (outD D).any (λy=>decide (x.1=y.1))=true then 5 else if (outD D).length=32 then 6 else 0
theorem mJ {x:En} (h:oB D=true) (m:vA D x=0):ud (outD D++[x])=0:=by
 obtain⟨_,l,_,_⟩:=su h;have g:=(qO _).1 l;unfold vA at m;by_cases d:okE x=false
 .rw[ze d]at m;cases m
 rw[zb d]at m;by_cases f:(outD D).any (λy=>decide (x.1=y.1))=true
 .rw[ze f]at m;cases m
 rw[zb f]at m;by_cases j:(outD D).length=32
 .rw[ze j]at m;cases m
 rw[qO,zl];refine⟨by have:=g.1;simp;omega,λy c=>?_,?_⟩
 .rcases yN.1 c with c|c
  .exact g.2.1 y c
  .rw[xZ]at c;subst c;simpa using d
 .rw[yo,wl];refine⟨g.2.2,by simp,λa k b i e=>f ?_⟩;obtain⟨y,c,rfl⟩:=yd.1 k;simp at i;rw[xO];exact⟨y,c,by simp[e,i]⟩
def Yv (D:List Int) (x:En) (w:World) (e:Ending) (w':World):Prop:=(vA D x=0/\QS (outD D++[x]) w e w')\/(vA D x≠0/\e=.returned (.tuple #[.slice none 0 0,(vA D x:Int)])/\Below w w w')
theorem EW (h:w.ownsRow base e size v n xs) (hB:B<=base) (f:v.ownBlock=some k):B<=k:=by
 obtain⟨_,⟨a,_⟩|⟨g,c,b,a,d,_⟩⟩:=h
 .rw[a]at f;simp[Value.ownBlock]at f
 .rw[a]at f;have:g=k:=by simpa[Value.ownBlock]using f
  omega
theorem Jn (v:Value) (D:List Int) (x:En) (w:World) (h:mU w v D) (hD:tL D) (ak:oB D=true):
 Calls prog 113 #[v,.agg #[.string x.1,x.2]] w (Yv D x w):=by
 obtain⟨hm,a5,_,_⟩:=(ND D).1 ak;obtain⟨N,HN⟩:=zD D.length;obtain⟨p,cp,rfl⟩:=Nv h.1 N HN.o;have HR:=za (λhp:vA D x=0=>mJ ak hp);obtain⟨n,S⟩:=zD ((outD D).length);have a4:n<=32:=by rw[<-S.o,(su ak).2.2.1];omega
 obtain⟨r,Hr⟩:=zD (vA D x);have g:=Hr;unfold vA at g;unfold Yv;rw[Hr.o];rw[S.o]at g;rw[Hr.o]at HR;obtain⟨a,d⟩:=x;obtain⟨i0,af,X,ag,O⟩:=yX OY;have HI:=za af;have az:=za X;have a0:=za ag;have an:=za O;obtain⟨H,P⟩:=zD (w.alloc (.cells #[.string a,d] 112));have L:Below w w H:=by rw[<-P.o];exact zB.alloc zL _
 have V:H.heap[w.heap.size]?=some (.cells #[.string a,d] 112):=by rw[<-P.o];exact zH
 have ai:=za (mF (p,N,cp) D H (h.below L) hD (by omega));have ad:=za V;have ab:=za L;have au:=za ak;clear h hD ak af X ag O hm L V;go_enter func113,ntmps113;go_wp2_with fail
 rw[P.o];refine ai.o.mono ?_;intro e T ae;obtain⟨_,ov,rfl,j,C⟩|⟨F,_⟩:=ae;case inr=>rw[au.o]at F;cases F
 rw[S.o]at j;obtain⟨q,c,rfl,_⟩:=rU j;have B:=(C.block _ (xB ad.o)).trans ad.o;have a1:T.cell? (w.heap.size,0)=some (.string a):=zC B;have a2:T.cell? (w.heap.size,1)=some (.int .i64 d):=zC B;have aa:=za B;have al:=za j;have A:Hid (Below w w T):=zi ab.o C;have HZ:Hid (H.heap.size<=T.heap.size):=C.size;obtain⟨nm,J⟩:=zD (tM a);have aq:Hid (∀W:World,Calls prog 58 #[.string a] W λe w'=>e=.returned (.bool nm)/\W=w'):=λW=>by rw[<-J.o];exact PZ a W
 obtain⟨b,Hb⟩:=zD ((outD D).any (λy=>decide (a=y.1)));have Z:qM T (q,n,c) (outD D):=by unfold qM;rw[S.o];exact uq.of_owns j
 have Q:=nT 155 Uj (w.heap.size,()) (λy=>decide (a=y.1)) _ (outD D) T Z (by rw[S.o];omega) (λy _ W hW=>Hv a y w W (by rw[hW.cell (zy a1)];exact a1));rw[Hb.o]at Q;have ay:=za Q;clear Q Z B j C;go_wp2_with fail
 refine (aq.o _).mono ?_;rintro e w' ⟨rfl,rfl⟩;cases nm with
 | false=>
  have s:r=3:=by rw[<-g.o,ze];unfold okE;rw[J.o];rfl
  subst s;go_wp2
  go_returns
  exact zw ⟨by omega,rfl,A.o⟩
 | true=>
  by_cases h1:d<1
  .have s:r=3:=(by rw[<-g.o,ze];unfold okE;simp;omega);subst s;go_wp2
   go_returns
   exact zw ⟨by omega,rfl,A.o⟩
  by_cases h2:32<d
  .have s:r=3:=(by rw[<-g.o,ze];unfold okE;simp;omega);subst s;go_wp2
   go_returns
   exact zw ⟨by omega,rfl,A.o⟩
  have K:Hid ((if b=true then 5 else if n=32 then 6 else 0)=r):=by have ak:okE (a,d)=true:=(by unfold okE;rw[J.o];simp;omega);have h3:=g.o;rw[zb (by rw[ak];decide)]at h3;have h4:((outD D).any λy=>decide ((a,d).1=y.1))=b:=Hb.o;rw[h4]at h3;exact h3
  go_wp2_with fail
  refine ay.o.mono ?_;rintro e R ⟨rfl,m⟩;have l:Hid (Below w w R):=zi A.o m;have E:Hid (R.ownsRow H 112 2 (q,n,c) n (ents (outD D))):=tt al.o m;have I:=(m.block _ (xB aa.o)).trans aa.o;have d1:R.cell? (w.heap.size,0)=some (.string a):=zC I;have d2:R.cell? (w.heap.size,1)=some (.int .i64 d):=zC I;have O:H.heap.size<=R.heap.size:=zv HZ.o m.size;clear m I;cases b with
  | true=>
   have ar:r=5:=K.o.symm;subst ar;go_wp2
   go_returns
   exact zw ⟨by omega,rfl,l.o⟩
  | false=>
   by_cases M:n=32
   .have ao:r=6:=(by have:=K.o;rw[zb (by decide),ze M]at this;exact this.symm);subst ao;subst M;go_wp2
    go_returns
    exact zw ⟨by omega,rfl,l.o⟩
   have a7:¬(n:Int)=32:=(by omega);have av:r=0:=(by have:=K.o;rw[zb (by decide),zb M]at this;exact this.symm);subst av;have aw:Hid ((R.alloc (.cells #[.string a,d] 112)).heap[R.heap.size]?=some (.cells #[.string a,d] 112)):=zH;go_wp2_with (at_builtin;refine yw _ rfl _ _ 108 rfl H.heap.size 112 i0 (.agg #[.string {data:=#[]},()]) 2 24 D6 HI.o az.o a0.o an.o rfl (by decide) _ _ _ rfl (E.o.alloc _) ⟨_,0,none⟩ 1 1 [.string a,.int .i64 d] rfl rfl (xF (cs:=#[.string a,.int .i64 d]) (t:=112) (fr:=(0,0)) aw.o) (by simp[Value.oneCell']) (by unfold maxLen;omega) (by omega) (by simp only[vt];omega) ?_;intro v8 w8 G z _)
   have f:w8.ownsRow H 112 2 v8 (outD D++[(a,d)]).length (ents (outD D++[(a,d)])):=(by rw[zl,S.o,ro];exact G);have U:Below w w w8:=Cd (l.o.alloc l.o.size _) z (by have:=l.o.size;simp only[vt];omega) (λk hk=>EW E.o ab.o.size hk);have HL:=za (j1 v8 (outD D++[(a,d)]) w8 ⟨uq.of_owns f,pO f⟩ (HR.o trivial));have ac:=za U;clear f U G z;refine HL.o.mono ?_;rintro e w9 ⟨u,rfl,hu,ah,Y⟩;have aj:Hid (∀b,u.ownBlock=some b->w.heap.size<=b):=λb hb=>zv ac.o.size (ah b hb);have HU:=za hu;have ap:Hid (Below w w w9):=zi ac.o Y;clear hu Y ah;go_wp2
   go_returns
   have i:QS (outD D++[(a,d)]) w (.returned (.tuple #[u,()])) w9:=⟨u,rfl,HU.o,aj.o,ap.o⟩
   first
    | exact i
    | exact zu i
    | exact zu ⟨rfl,i⟩
theorem EY (h:oB D=true) (i):ud ((outD D).eraseIdx i)=0:=by obtain⟨_,c,_,_⟩:=su h;have a:=(qO _).1 c;have b:=List.eraseIdx_sublist (outD D) i;rw[qO];exact⟨zv b.length_le a.1,λx d=>a.2.1 x (b.subset d),(b.map (·.1)).nodup a.2.2⟩
def OutNew (D:List Int) (name:ByteArray) (w:World) (e:Ending) (w':World):Prop:=
 ((∀x∈outD D,decide (name=x.1)=false)/\e=.returned (.tuple #[.slice none 0 0,(4:Int)])/\Below w w w') \/
 (∃(i:Nat) (hi:i<(outD D).length),decide (name=(outD D)[i].1)=true/\QS ((outD D).eraseIdx i) w e w')
theorem Ju (v:Value) (D:List Int) (name:ByteArray) (w:World) (h:mU w v D) (hD:tL D) (aj:oB D=true):
 Calls prog 111 #[v,.string name] w (OutNew D name w):=by
 obtain⟨hm,ah,_,_⟩:=(ND D).1 aj;obtain⟨N,HN⟩:=zD D.length;obtain⟨p,cp,rfl⟩:=Nv h.1 N HN.o;have HR:=za (EY aj);obtain⟨n,z⟩:=zD ((outD D).length);have ag:n<=32:=by rw[<-z.o,(su aj).2.2.1];omega
 obtain⟨x,t⟩:=zD (w.alloc (.cells #[.string name] 9));have s:Below w w x:=by rw[<-t.o];exact zB.alloc zL _
 have B:x.heap[w.heap.size]?=some (.cells #[.string name] 9):=by rw[<-t.o];exact zH
 have S:=za (mF (p,N,cp) D x (h.below s) hD (by omega));have K:=za B;have I:=za s;have Z:=za aj;clear h hD aj hm s B;go_enter func111,ntmps111;go_wp2_with fail
 rw[t.o];refine S.o.mono ?_;intro e M L;obtain⟨_,ov,rfl,d,k⟩|⟨l,_⟩:=L;case inr=>rw[Z.o]at l;cases l
 have m:=d;rw[z.o]at d;obtain⟨q,c,rfl,_⟩:=rU d;have O:=(k.block _ (xB K.o)).trans K.o;have a1:M.cell? (w.heap.size,0)=some (.string name):=zC O;have U:=za m;have ab:Hid (Below w w M):=zi I.o k;have ae:x.heap.size<=M.heap.size:=k.size;have G:qM M (q,n,c) (outD D):=by unfold qM;rw[z.o];exact uq.of_owns d
 have Q:=WD 152 Uq (w.heap.size,()) (λy=>decide (name=y.1)) _ (outD D) M G (by rw[z.o];omega) (λy _ W hW=>Gj name y w W (by rw[hW.cell (zy a1)];exact a1));have af:=za Q;clear Q G O d k m;go_wp2_with fail
 refine af.o.mono ?_;rintro e R ⟨r,rfl,hr,g⟩;have F:Hid (Below w w R):=zi ab.o g;have E:Hid (R.ownsRow x 112 2 (q,n,c) (outD D).length (ents (outD D))):=tt U.o g;have aa:x.heap.size<=R.heap.size:=zv ae g.size;clear g;obtain⟨rfl,a⟩|⟨i,hi,rfl,hT,_⟩:=hr
 .have V:=za a;clear a;go_wp2
  go_returns
  exact zu ⟨V.o,rfl,F.o⟩
 .have HT:Hid (decide (name=(outD D)[i].1)=true):=hT;have Y:=za hi;obtain⟨j,Hj⟩:=zD (i+1);have T:=hi;rw[z.o]at T;have wj:IntKind.i64.wrap ((i:Int)+1)=(j:Int):=by rw[zM _ (by omega)];have:=Hj.o;omega
  have ai:¬(i:Int)<0:=by omega
  have A:=za (KZ x (q,n,c) (outD D) R E.o i hi (by rw[z.o];omega) j Hj.o aa);clear hT;go_wp2_with fail
  refine A.o.mono ?_;rintro e w3 ⟨v3,rfl,f,H⟩;have J:Hid (Below w w w3):=F.o.trans (H.mono I.o.size);have HL:=za (j1 v3 ((outD D).eraseIdx i) w3 ⟨uq.of_owns f,pO f⟩ (HR.o i));clear f H;go_wp2_with fail
  refine HL.o.mono ?_;rintro e w4 ⟨u,rfl,hu,C,P⟩;have HU:=za hu;have X:Hid (∀b,u.ownBlock=some b->w.heap.size<=b):=λb hb=>zv J.o.size (C b hb);have ad:Hid (Below w w w4):=zi J.o P;clear hu P C;go_wp2
  go_returns
  exact zw ⟨i,Y.o,HT.o,u,rfl,HU.o,X.o,ad.o⟩
