import Derived.Test.YtakfhadmokoikaaGreatDoorKA27
import Derived.Deep.RegionHeldLaw
import Derived.Lib.SlBytesRow
import Derived.Deep.RegionHeld3
import Derived.Deep.DrawnRows
import Derived.Deep.AppendLies
import Derived.BigRegion
set_option maxHeartbeats 0
set_option linter.all false
set_option maxRecDepth 100000
namespace Go.Proofs.YtakfhadmokoikaaGreatDoor
open Go.Proofs.Tryz Go.RowKit Go.Shelf
variable {D:List Int}
def no (D:List Int):Prop:=∀x∈D,0<=x/\x<=255
theorem VZ {E:List Int} {o:Nat} (h:no D) (c:no E):no (over D o E):=fun x a=>by
 have b:x∈D.take o\/x∈E\/x∈D.drop (o+E.length):=by have:=a;unfold over at this;simpa only[yv]using this
 clear a;rcases b with a|a|a
 .exact h x (xd a)
 .exact c x a
 .exact h x (xY a)
theorem Qi (s:ByteArray):no (bI s):=fun x a=>by obtain⟨b,_,rfl⟩:=zV.1 a;have:=b.toNat_lt;omega
theorem JL : ∀(P:List (Nat×En)) (D:List Int),no D->(∀p∈P,0<=p.2.2/\p.2.2<=255)->no (layF D P)
 | [],_,h,_=>h
 | p::P,D,h,b=>by
  refine JL P (putE D p) (fun x a=>?_) (fun q c=>b q (by simp[c]));unfold putE at a;rcases vu a with a|a
  .exact VZ h (Qi _) x a
  .rw[a];exact b p (by simp)
theorem Ov {l:List En} (h:tW l=0):no (layD l):=by
 obtain⟨d,b,_⟩:=Vo h;unfold layD layS;refine JL _ _ (fun x c=>?_) fun p a=>?_
 .rw[uR]at c;omega
 .have:=jo (b p.2 (l7 a).2);omega
theorem QI: prog.underlying 9=some .string:=by kernel_rfl
theorem Lv {w:World} {v:Value} (h:vC w v D) (d:0<D.length):(convert 23 9 v).run prog w=.ok (.string (sg D)) w:=by
 obtain⟨_,⟨b,_⟩|⟨g,o,c,rfl,a⟩⟩:=h
 .omega
 exact ZB w 23 9 5 g o c D.length D rfl ig (by kernel_rfl) QI a
theorem MQ (D:List Int):(sg D).size=D.length:=by show (sg D).data.toList.length=_;rw[Yv,yw]
theorem Z8 (v:Value) (D:List Int) (w:World) (h:tQ w v D) (hD:no D) (aa:Nat) (ab:16*aa+16<=D.length) (hl:D.length<=1000000):
 Calls prog 145 #[v,aa] w fun e w'=>e=.returned (.agg #[.string (rdE D aa).1,.int .i64 (rdE D aa).2])/\Below w w w':=by
 obtain⟨F,u⟩:=zD ((rdE D aa).1);obtain⟨f,A⟩:=zD ((rdE D aa).2);rw[u.o,A.o];obtain⟨N,C⟩:=zD D.length;obtain⟨g,o,B,rfl,t⟩:∃g o B,v=.slice (some ⟨g,o,none⟩) N B/\∀(j:Nat) (x:Value),(u8s D)[j]?=some x->w.cell? ⟨g,o+j,none⟩=some x:=by
  obtain⟨_,⟨Y,_⟩|⟨g,o,H,T,t⟩⟩:=h.1
  .omega
  .exact⟨g,o,H,by rw[<-C.o];exact T,t⟩
 have L:N<=B:=h.2 _ _ _ rfl;rw[C.o]at ab hl;obtain⟨c,n⟩:∃b,16*aa=b:=⟨_,rfl⟩;obtain⟨a,z⟩:∃b,c+14=b:=⟨_,rfl⟩;have U:IntKind.i64.wrap (16*(aa:Int))=(c:Int):=by rw[zQ _ (by omega)];omega
 have w5:IntKind.i64.wrap ((c:Int)+14)=(a:Int):=by rw[zQ _ (by omega)];omega
 have y:((D.drop c).take 14).length=14:=by rw[zi,yx,C.o];omega
 have p:∀W:World,Below w w W->vC W (g,o+c,(a-c),(B-c)) ((D.drop c).take 14):=fun W P=>by
  refine⟨by rw[vO,vD],zu ⟨g,o+c,B-c,by rw[y];congr 1;omega,fun j x E=>?_⟩⟩;have R:j<14:=by have:=(zy.1 E).1;rw[vO,y]at this;exact this
  rw[od,mr,zI,ze R,yo]at E;have i:g<w.heap.size:=zG (t _ _ E);rw[P.cell i,yA];exact t _ _ E
 obtain⟨S,J⟩:=zD (sg ((D.drop c).take 14));have l:Below w w (w.alloc (.cells #[.string {data:=#[]},()] 188)):=zB.alloc zL _;have K:=Lv (p _ l) (by rw[y];omega);rw[J.o]at K;have s:a<D.length:=by rw[C.o];omega
 have q:(u8s D)[a]?=some (.int .u8 f):=by rw[sJ D a s,<-A.o];unfold rdE;show some (Value.int .u8 D[a])=some (.int .u8 (D.getD (16*aa+14) 0));rw[n,z,zh,zf s];rfl
 have m:=t a _ q;have i:g<w.heap.size:=zG m;have r:(w.alloc (.cells #[.string {data:=#[]},()] 188)).cell? (g,o+a)=some (.int .u8 f):=by rw[l.cell i];exact m
 have k:(w.alloc (.cells #[.string F,f] 188)).drew.cell? (g,o+a)=some (.int .u8 f):=by have d:Below w w (w.alloc (.cells #[.string F,f] 188)):=zB.alloc zL _;rw[d.drew.cell i];exact m
 have G:0<=f/\f<=255:=by have d:=sJ D a s;rw[q]at d;injection d with d;injection d with _ d;rw[d];exact hD _ (zz _)
 obtain⟨X,Z⟩:=G;have V:IntKind.i64.wrap f=f:=zQ _ (by omega);have I:Hid (∀W:World,Calls prog 183 #[.string S,.string ⟨#[0]⟩] W fun e w'=>e=.returned (.string F)/\w'=W):=fun W=>by
  have d:=Any.strings_TrimRight_one Tryz.lays162 S 0 (by decide) W (by rw[<-J.o,MQ,y];omega);have O:(⟨(Lib.trimRightB S.data.toList 0).toArray⟩:ByteArray)=F:=by rw[<-u.o,<-J.o,<-n];rfl
  rw[O]at d;exact d
 have M:=Lib.hid l;have Q:¬g=w.heap.size:=by omega
 clear h p t q m l y hD;go_enter func145,ntmps145;go_wp2;have kb:(a:Int)<(N:Int):=by omega
 refine wp_region_noPanic ?_
 go_region_held_law (fun w'=>w'.cell? (g,o+a)=some (.int .u8 f)) (first|exact r|exact k|(go_keep;done)) (first|(go_at_call 183;refine (I.o _).mono ?_;rintro e w' ⟨rfl,rfl⟩))
 all_goals
  refine NoPanic.normal ?_;go_wp2
  go_returns
  exact⟨rfl,(zB.alloc zL _).drew⟩
end Go.Proofs.YtakfhadmokoikaaGreatDoor
namespace Go.Proofs.YtakfhadmokoikaaGreatDoor
open Go.Proofs.Tryz Go.RowKit
variable {B at_ base gb gn go gy k n size:Nat} {D:List Int} {e:TypeId} {name:ByteArray} {outs:List En} {r:Int×Nat×Int} {v:Value} {w w0:World} {xs:List Value}
section
variable {P : Program} {o : Oper} {a : Act} {w : World} {K : Act->World->Prop} {Q : Exit->Act->World->Prop}
theorem OS {ops:Array Oper} {X:Prop} (m:o.guard=none) (f:FuncId) (n:Array Operand) (p:Array TypeId) (q:o.op=.call {callee:=.value (.func f),args:=n,argTypes:=p})
 (r:∀args w,(callFunc f args).run P w=.ok (.enter f args) w) (args:Array Value) (l:#[]++n.map a.eval++#[]=args) (R:Value->World->Prop)
 (s:Calls P f args w fun e w'=>∃v,e=.returned v/\R v w') (h:∀v w',R v w'->K (a.put o.dst v) w'):if Region.wanted o (yielded ops a.tmps)=true then Oper.wp P o a w K Q else X:=by
 rw[ze (by simp[Region.wanted,m])];have e:execOp a.eval o=callFunc f (#[]++n.map a.eval++#[]):=by obtain⟨d,j,k,pos,b,c⟩:=o;simp only at q;subst q;rfl
 unfold Oper.wp;rw[e,l,r];exact s.mono fun e w' ⟨v,g,i⟩=>by subst g;exact h v w' i
end
theorem Gb (w:World) (o:Obj) (p:Addr) (h:p.block<w.heap.size):(w.alloc o).frozen? p=w.frozen? p:=((xW w w).alloc zL o).frozen h
structure lm (w0:World) (gn gy go gb n:Nat) (v:Value) (outs:List En) (w:World):Prop where
 z:w0.heap.size<=gn/\w0.heap.size<=gy/\w0.heap.size<=go/\w0.heap.size<=gb
 n:w.heap[gn]?=some (.cells #[n] 3)
 y:w.heap[gy]?=some (.cells #[.func (.func 182) #[] #[(gn,()),(gy,()),(go,()),(gb,())]] 67)
 b:w.heap[gb]?=some (.cells #[v] 23)
 o:∃ov,w.heap[go]?=some (.cells #[ov] 184)/\w.ownsRow w0 188 2 ov outs.length (ents outs)
 hb:Below w0 w0 w
def Wu (w0:World) (gn gy go gb n:Nat) (v:Value) (D:List Int) (outs:List En) (at_:Nat) (e:Ending) (w':World):Prop:=
 e=.returned (.tuple #[])/\lm w0 gn gy go gb n v (outs++(ino n at_).map (rdE D)) w'
theorem lm.snoc {wR w4:World} {gg cap m:Nat} {ov:Value} {cs:Array Value} (h:lm w0 gn gy go gb n v outs w) (H:w.heap[go]?=some (.cells #[ov] 184)) (E:w.ownsRow w0 188 2 ov outs.length (ents outs))
 (F:Below w w wR) (x:En) (I:outs.length+1=m) (D:w4.ownsRow w0 188 2 (gg,0,m,cap) m (ents outs++[.string x.1,.int .i64 x.2]))
 (G:(wR.alloc (.cells cs 188)).grownBy w4 ov.ownBlock):lm w0 gn gy go gb n v (outs++[x]) (w4.setCell (go,0) (gg,0,m,cap)):=by
 have u:∀(i:Nat) (c:Array Value) (t:TypeId),w.heap[i]?=some (.cells c t)->t≠188->w4.heap[i]?=some (.cells c t):=fun i c t f k=>by have A:=(F.block i (xL f)).trans f;have s:=tf A (.cells cs 188);exact (G.block i (xL s) (fun e=>rW E f (yF k) e.symm)).trans s
 have l:∀(i:Nat) (c:Array Value) (t:TypeId),w.heap[i]?=some (.cells c t)->t≠188->t≠184->(w4.setCell (go,0) (gg,0,m,cap)).heap[i]?=some (.cells c t):=fun i c t f k o=>by rw[yC _ _ _ _ (tj f H o)];exact u i c t f k
 have d:=u go _ _ H (by decide);have B:w0.heap.size<=wR.heap.size:=zr h.hb.size F.size;have p:Below w0 w0 w4:=xC ((Below.step h.hb F).alloc B _) G (by simp only[tY];omega) (fun q j=>by
  obtain⟨_,⟨r,_⟩|⟨g,cap,C,r,G,_⟩⟩:=E
  .rw[r]at j;simp[Value.ownBlock]at j
  .rw[r]at j;have:g=q:=(by simpa[Value.ownBlock]using j);rw[<-this];exact G)
 have a:w4.ownsRow w0 188 2 (gg,0,m,cap) (outs++[x]).length (ents (outs++[x])):=by rw[zl,fV];show w4.ownsRow _ _ 2 _ (outs.length+1) (ents outs++[.string x.1,.int .i64 x.2]);rw[I];exact D
 refine⟨h.z,l _ _ _ h.n (by decide) (by decide),l _ _ _ h.y (by decide) (by decide),l _ _ _ h.b (by decide) (by decide),⟨_,?_,oT a fun b F=>?_⟩,p.setCell h.z.2.2.1 _⟩
 .rw[sC _ _ _ _ _ _ _ d,yi _ _ _ _ _ _ d];rfl
 .exact yC _ _ _ _ (fun e=>rW D d (by decide) (by rw[F,e]))
theorem lm.drew (h:lm w0 gn gy go gb n v outs w):lm w0 gn gy go gb n v outs w.drew:=⟨h.z,h.n,h.y,h.b,h.o,h.hb.drew⟩
theorem PE (w0:World) (gn gy go gb n:Nat) (v:Value) (D:List Int) (al:tQ w0 v D) (am:no D) (hn:16*n=D.length) (ao:n<=32):∀(f at_:Nat) (outs:List En) (w:World),n<=at_+f->outs.length+(ino n at_).length<=32->at_<=1000->lm w0 gn gy go gb n v outs w ->
 Calls prog 182 #[at_,(gn,()),(gy,()),(go,()),(gb,())] w (Wu w0 gn gy go gb n v D outs at_):=by
 have HV:=Lib.hid al;have HD:=Lib.hid am;have M:=Lib.hid hn;clear al am hn;obtain⟨i0,ad,S,af,A⟩:=xp Wq;have HI:=Lib.hid ad;have a6:=Lib.hid S;have a7:=Lib.hid af;have aw:=Lib.hid A;clear ad S af A;have C:∀(at_:Nat) (outs:List En) (w:World),n<=at_->lm w0 gn gy go gb n v outs w->Calls prog 182 #[at_,(gn,()),(gy,()),(go,()),(gb,())] w (Wu w0 gn gy go gb n v D outs at_):=by
  intro at_ outs w G h;have c1:w.cell? (gn,0)=some (.int .i64 (n:Int)):=zC h.n;have aP:¬(at_:Int)<(n:Int):=by omega
  have HE:Hid (Wu w0 gn gy go gb n v D outs at_ (.returned (.tuple #[])) w):=by refine⟨rfl,?_⟩;rw[iJ G,un,xn];exact h
  clear h;go_enter func182,ntmps182;go_wp2
  go_returns
  exact HE.o
 have m:=Lib.hid C;clear C;intro f
 induction f with
 | zero=>exact fun at_ outs w h1 _ _ E=>m.o at_ outs w (by omega) E
 | succ f ih=>
  intro at_ outs w h1 h2 h4 E;by_cases G:n<=at_
  .exact m.o at_ outs w G E
  have au:at_<n:=by omega
  have d:=LG au;obtain⟨L,HL⟩:=zD (ino n (2*at_+1));obtain⟨R,HR⟩:=zD (ino n (2*at_+2));rw[HL.o,HR.o]at d;obtain⟨a1,r⟩:=zD (2*at_+1);obtain⟨a2,z⟩:=zD (2*at_+2);rw[r.o]at HL;rw[z.o]at HR;have B:(ino n at_).length=L.length+(R.length+1):=by rw[d];simp
  rw[B]at h2;have a3:=Lib.hid d;have i1:=ih a1 outs w (by have:=r.o;omega) (by rw[HL.o];omega) (by have:=r.o;omega) E;have I1:=Lib.hid i1;have I2:Hid (∀(V:List En) (w:World),V.length=outs.length+L.length+1->lm w0 gn gy go gb n v V w->Calls prog 182 #[a2,(gn,()),(gy,()),(go,()),(gb,())] w (Wu w0 gn gy go gb n v D V a2)):=fun V w ho hw=>ih a2 V w (by have:=z.o;omega) (by rw[HR.o];omega) (by have:=z.o;omega) hw;have c1:w.cell? (gn,0)=some (.int .i64 (n:Int)):=zC E.n;have c2:w.cell? (gy,0)=some (.func (.func 182) #[] #[(gn,()),(gy,()),(go,()),(gb,())]):=zC E.y;have w1:=zW (2*(at_:Int));have q:IntKind.i64.wrap (2*(at_:Int)+1)=(a1:Int):=by rw[zQ _ (by omega)];have:=r.o;omega
  have w3:IntKind.i64.wrap (2*(at_:Int)+2)=(a2:Int):=by rw[zQ _ (by omega)];have:=z.o;omega
  have aG:(at_:Int)<(n:Int):=by omega
  clear ih i1 h1 h4 E d B;go_enter func182,ntmps182;go_wp2_with fail
  refine I1.out.mono ?_;rintro e i ⟨rfl,x⟩;rw[HL.o]at x;obtain⟨o1,H⟩:=zD (outs++L.map (rdE D));rw[H.o]at x;have P:o1.length=outs.length+L.length:=by rw[<-H.o];simp
  have ax:=Lib.hid P;obtain⟨M1,J⟩:=zD o1.length;have aH:M1<=31:=by have:=J.o;omega
  clear P;obtain⟨ov,g,s⟩:=x.o;have k:=s;rw[J.o]at k;have ag:=Lib.hid k;clear k;obtain⟨x1,Z⟩:=zD ((rdE D at_).1);obtain⟨N,K⟩:=zD ((rdE D at_).2);have l:=Z8 v D i.drew (HV.o.below x.hb.drew) HD.o at_ (by have:=M.o;omega) (by have:=M.o;omega);rw[Z.o,K.o]at l;have aa:Hid (Calls prog 145 #[v,at_] i.drew fun e w'=>∃u,e=.returned u/\u=.agg #[.string x1,N]/\Below i.drew.heap.size i.drew w'):=l.mono fun e w' ⟨h1,h2⟩=>⟨_,h1,rfl,h2⟩;have k0:i.cell? (go,0)=some ov:=zC g;have f0:i.frozen? (go,0)=false:=zF g;have kb:i.cell? (gb,0)=some v:=zC x.b;have F:go<i.heap.size:=xL g;have az:gb<i.heap.size:=xL x.b;have HA:=Lib.hid x;have av:=Lib.hid g;have aq:=Lib.hid s;have a5:w0.heap.size<=i.heap.size:=x.hb.size;have NE:=Lib.hid (rW s g (by decide));clear x g s l c1 c2;go_wp2
  go_region_law (first
   | (refine OS ?_ 145 #[.tmp 15,.tmp 16] #[23,3] ?_ (fun _ _=>by kernel_rfl) #[v,at_] ?_ _ aa.o ?_;(rfl);(rfl);(kernel_rfl);rintro _ q ⟨rfl,c⟩;have k2:q.cell? (go,0)=some ov:=(c.cell (p:=⟨go,0,none⟩) F).trans k0;have f2:q.frozen? (go,0)=false:=(c.frozen (p:=⟨go,0,none⟩) F).trans f0;have b2:q.cell? (gb,0)=some v:=(c.cell (p:=⟨gb,0,none⟩) az).trans kb;have kz:go<q.heap.size:=zm F c.size;have kn:¬go=q.heap.size:=nS kz;have U:Hid (q.ownsRow w0 188 2 ov M1 (ents o1)):=th (w:=i.drew) ag.o c;have A:w0.heap.size<=q.heap.size:=zr a5 c.size;have W:=Lib.hid c;clear c)
   | (
    refine step_append_lies _ (by rfl) _ _ _ (by rfl) w0.heap.size 188 i0 _ 2 24 oM HI.o a6.o a7.o aw.o rfl (by omega) ov M1 (ents o1) (by rfl) (U.o.alloc _)
     ⟨q.heap.size,0,none⟩ 1 1 [.string x1,.int .i64 N] (by rfl) (by rfl) (World.news_of_block (cs:=#[.string x1,.int .i64 N]) (t:=188) (fr:=(0,0)) (zT q _)) (by simp[Value.oneCell'])
     (by omega) (by unfold maxLen;omega) (by omega) (by simp only[tY];omega) (q.heap.size+1) (by simp only[tY]) ?_;intro gg ab w4 j a T Q
    have k4:w4.cell? (go,0)=some ov:=(by rw[a.cell_far _ (by simp only[tY];omega) (yF NE.out),wk _ _ _ kz];exact k2);have f4:w4.frozen? (go,0)=false:=(by rw[a.frozen_far _ (by simp only[tY];omega) (yF NE.out),Gb _ _ _ kz];exact f2);have X:=Lib.hid j;have Y:=Lib.hid a;clear j a T))
  all_goals
   have hS:=HA.o.drew.snoc (w:=i.drew) av.o aq.o W.o (x1,N) (by rw[J.o]) X.o Y.o;have a4:(x1,N)=rdE D at_:=(by rw[<-Z.o,<-K.o]);rw[a4]at hS;obtain⟨w5,ae⟩:=zD (w4.setCell (go,0) (gg,0,(M1+1),ab));rw[ae.o]at hS ⊢;have c5:w5.cell? (gy,0)=some (.func (.func 182) #[] #[(gn,()),(gy,()),(go,()),(gb,())]):=zC hS.y;have I:=Lib.hid (I2.out _ _ (by rw[zl,ax.o];rfl) hS);clear hS k4 f4 ae X Y Q k2 f2 b2 kz kn U A W;go_wp2_with fail
   refine I.o.mono ?_;rintro e w6 ⟨rfl,h6⟩;have O:Hid (Wu w0 gn gy go gb n v D outs at_ (.returned (.tuple #[])) w6):=(by refine⟨rfl,?_⟩;rw[HR.o,<-H.o]at h6;rw[a3.o,yB,yI];simpa using h6);clear h6;go_wp2
   go_returns
   exact O.o
def ListOk (D:List Int) (w:World) (e:Ending) (w':World):Prop:=∃v,e=.returned (.tuple #[v,()])/\w'.ownsRow w 188 2 v (outD D).length (ents (outD D))/\Below w w w'
def Yz (w:World) (e:Ending) (w':World):Prop:=e=.returned (.tuple #[.slice none 0 0,(3:Int)])/\Below w w w'
theorem mH (h:vC w v D) (N:Nat) (e:D.length=N):∃p cp,v=.slice p N cp:=by
 subst e;obtain⟨_,⟨d,b,c,rfl⟩|⟨g,o,a,rfl,_⟩⟩:=h
 .exact⟨b,c,by rw[d]⟩
 .exact⟨_,a,rfl⟩
theorem lL (h:w.ownsRow base e size v n xs):kt v:=by
 intro p j c a;obtain⟨_,⟨rfl,k⟩|⟨g,f,b,rfl,_,_,l,_⟩⟩:=h
 .injection a with _ i d;omega
 .injection a with _ i d;omega
theorem PD (v:Value) (D:List Int) (w:World) (h:tQ w v D) (j:D.length<=1000000) (i:D.length%16≠0\/512<D.length):
 Calls prog 144 #[v] w (Yz w):=by
 obtain⟨N,d⟩:=zD D.length;obtain⟨p,g,rfl⟩:=mH h.1 N d.o;rw[d.o]at j i;have b:Hid (Below w w (w.alloc (.cells #[(p,N,g)] 23))):=zB.alloc zL _;clear h;obtain⟨r,c⟩:=zD (N%16);have e:(N:Int).tmod 16=(r:Int):=by rw[<-c.o];rfl
 by_cases a:r=0
 .subst a;have f:(512:Int)<(N:Int):=by have:=c.o;omega
  go_enter func144,ntmps144
  go_wp2
  go_returns
  exact⟨rfl,b.o⟩
 .have f:¬(r:Int)=0:=by omega
  go_enter func144,ntmps144
  go_wp2
  go_returns
  exact⟨rfl,b.o⟩
def Zs (D:List Int) (w:World) (e:Ending) (w':World):Prop:=(sI D=true/\ListOk D w e w')\/(sI D=false/\Yz w e w')
theorem PC (v:Value) (D:List Int) (w:World) (h:tQ w v D) (hD:no D) (hm:D.length%16=0) (aa:D.length<=512):
 Calls prog 144 #[v] w (Zs D w):=by
 obtain⟨N,F⟩:=zD D.length;obtain⟨p,K,rfl⟩:=mH h.1 N F.o;rw[F.o]at hm aa;obtain⟨n,Hn⟩:=zD (N / 16);have ap:(N:Int).tmod 16=0:=by show ((N%16:Nat):Int)=0;rw[hm];rfl
 have an:(N:Int).tdiv 16=(n:Int):=by rw[<-Hn.o];rfl
 have h5:¬(512:Int)<(N:Int):=by omega
 have g:n<=32:=by have:=Hn.o;omega
 have u:16*n=D.length:=by rw[F.o];have:=Hn.o;omega
 obtain⟨x,i⟩:=zD ((((w.alloc (.cells #[(p,N,K)] 23)).alloc (.cells #[n] 3)).alloc (.cells #[.slice none 0 0] 184)).alloc (.cells #[.func (.func 182) #[] #[.pointer (some ⟨w.heap.size+1,0,none⟩),.pointer (some ⟨w.heap.size+1+1+1,0,none⟩),.pointer (some ⟨w.heap.size+1+1,0,none⟩),(w.heap.size,())]] 67));have Z:Below w w x:=by rw[<-i.o];exact (((zB.alloc zL _).alloc (by simp only[tY];omega) _).alloc (by simp only[tY];omega) _).alloc (by simp only[tY];omega) _
 have P:x.heap[w.heap.size]?=some (.cells #[(p,N,K)] 23):=by rw[<-i.o,ol (by simp only[tY];omega),ol (by simp only[tY];omega),ol (by simp only[tY];omega),jA rfl]
 have S:x.heap[w.heap.size+1]?=some (.cells #[n] 3):=by rw[<-i.o,ol (by simp only[tY];omega),ol (by simp only[tY];omega),jA (by simp only[tY])]
 have Q:x.heap[w.heap.size+1+1]?=some (.cells #[.slice none 0 0] 184):=by rw[<-i.o,ol (by simp only[tY];omega),jA (by simp only[tY])]
 have M:x.heap[w.heap.size+1+1+1]?=some (.cells #[.func (.func 182) #[] #[.pointer (some ⟨w.heap.size+1,0,none⟩),.pointer (some ⟨w.heap.size+1+1+1,0,none⟩),.pointer (some ⟨w.heap.size+1+1,0,none⟩),(w.heap.size,())]] 67):=by rw[<-i.o,jA (by simp only[tY])]
 have U:lm w (w.heap.size+1) (w.heap.size+1+1+1) (w.heap.size+1+1) w n (p,N,K) [] x:=
  ⟨⟨by omega,by omega,by omega,zL⟩,S,M,P,⟨_,Q,⟨rfl,zt ⟨rfl,rfl⟩⟩⟩,Z⟩
 have f:=PE w (w.heap.size+1) (w.heap.size+1+1+1) (w.heap.size+1+1) w n (p,N,K) D h hD u g n 0 [] x (by omega) (by rw[(fN g).2.1];simpa using g) (by omega) U;rw[show ((0:Nat):Int)=0 from rfl]at f;have C:=Lib.hid f;have k:[]++(ino n 0).map (rdE D)=outD D:=by unfold outD;rw[F.o,Hn.o,xj]
 have R:=Lib.hid k;have O:Hid ((outD D).length=n):=by show _=_;rw[<-k,xj,yw,(fN g).2.1]
 have ah:=Lib.hid h;have HH:Hid (D.length%16=0/\D.length<=512/\D.length=16*n):=by rw[F.o];exact⟨hm,aa,by rw[<-F.o,u]⟩
 clear h hm aa Z P S Q M U f k;go_enter func144,ntmps144;go_wp2_with fail
 rw[i.o];refine C.o.mono ?_;rintro e w2 ⟨rfl,I⟩;rw[R.o]at I;obtain⟨l,m,j⟩:=I.o;have k0:w2.cell? (w.heap.size+1+1,0)=some l:=zC m;have E:=I.hb;have G:=I.b;have z:=Lib.hid m;have X:=Lib.hid G;have ai:=Lib.hid j;have V:=Lib.hid E;have s:gO w2 l (outD D):=⟨xT.of_owns j,lL j⟩;by_cases J:tW (outD D)=0
 .have HL:=Lib.hid (lay_ok l (outD D) w2 s J);have HR:=Lib.hid J;clear I m G j E s J;go_wp2_with fail
  refine HL.o.mono ?_;rintro e t ⟨c,rfl,hc,a⟩;have y:(layD (outD D)).length=D.length:=by rw[Zh HR.o,O.o,HH.o.2.2]
  have kb:t.cell? (w.heap.size,0)=some (.slice p N K):=(a.cell (p:=⟨w.heap.size,0,none⟩) (xL X.o)).trans (zC X.o);have ko:t.cell? (w.heap.size+1+1,0)=some l:=(a.cell (p:=⟨w.heap.size+1+1,0,none⟩) (xL z.o)).trans (zC z.o);have H:=Below.step V.o a;have A:=IV c (p,N,K) (layD (outD D)) D t hc.1 (ah.o.below H).1 y (by rw[y,F.o];omega);obtain⟨b,Hb⟩:=zD (lF (layD (outD D)) D);rw[Hb.o]at A;have ae:=Lib.hid A;have B:=Lib.hid H;have af:Hid (t.ownsRow w 188 2 l (outD D).length (ents (outD D))):=th ai.o a;have W:w.heap.size+1+1<t.heap.size:=zm (xL z.o) a.size;clear hc a y H A;go_wp2_with fail
  refine ae.o.mono ?_;rintro e L ⟨rfl,q⟩;have k4:L.cell? (w.heap.size+1+1,0)=some l:=(q.cell (p:=⟨w.heap.size+1+1,0,none⟩) W).trans ko;have Y:Hid (Below w w L):=Below.step B.o q;have ak:Hid (L.ownsRow w 188 2 l (outD D).length (ents (outD D))):=th af.o q;clear q;cases b with
  | true=>
   have d:Hid (Zs D w (.returned (.tuple #[l,()])) L):=(by refine zt ⟨(ny D).2 ⟨HH.o.1,HH.o.2.1,HR.o,?_⟩,⟨l,rfl,ak.o,Y.o⟩⟩;have:=Hb.o;unfold lF at this;simpa using this);go_wp2
   go_returns
   exact d.o
  | false=>
   have d:Hid (Zs D w (.returned (.tuple #[.slice none 0 0,(3:Int)])) L):=by
    refine zu ⟨?_,⟨rfl,Y.o⟩⟩;cases hq:sI D with
    | false=>rfl
    | true=>
     have h1:=((ny D).1 hq).2.2.2;have:=Hb.o;unfold lF at this;simp[h1]at this
   go_wp2
   go_returns
   exact d.o
 .obtain⟨r,Hr⟩:=zD (tW (outD D));have T:=J;rw[Hr.o]at T;have HL:=Lib.hid (U7 l (outD D) w2 s (by rw[O.o];omega) r Hr.o T);have HR:=Lib.hid J;clear I m G j E s J;go_wp2_with fail
  refine HL.o.mono ?_;rintro e t ⟨rfl,a⟩;have B:Hid (Below w w t):=Below.step V.o a;have d:Hid (Zs D w (.returned (.tuple #[.slice none 0 0,(3:Int)])) t):=by
   refine zu ⟨?_,⟨rfl,B.o⟩⟩;cases hq:sI D with
   | false=>rfl
   | true=>exact yb ((ny D).1 hq).2.2.1 HR.o
  clear a;go_wp2
  go_returns
  exact d.o
theorem WD (v:Value) (D:List Int) (w:World) (h:tQ w v D) (f:no D) (g:D.length<=1000000):Calls prog 144 #[v] w (Zs D w):=by
 by_cases a:D.length%16=0/\D.length<=512
 .exact PC v D w h f a.1 a.2
 .refine (PD v D w h g (by omega)).mono fun e d c=>zu ⟨?_,c⟩;cases b:sI D with
  | false=>rfl
  | true=>exact yb ⟨((ny D).1 b).1,((ny D).1 b).2.1⟩ a
def qb (D:List Int) (n:Nat) (name:ByteArray):Nat->Nat->Nat->Int×Nat×Int
 | 0,_,k=>(0,k,4)
 | f+1,at_,k=>if at_<n then (if cmpB name (rdE D at_).1=0 then ((rdE D at_).2,k+1,0) else if cmpB name (rdE D at_).1<0 then qb D n name f (2*at_+1) (k+1) else qb D n name f (2*at_+2) (k+1)) else (0,k,4)
def vz (D:List Int) (name:ByteArray):Int×Nat×Int:=qb D (D.length / 16) name 7 0 0
def YB (r:Int×Nat×Int) (w:World) (e:Ending) (w':World):Prop:=e=.returned (.tuple #[r.1,r.2.1,r.2.2])/\Below w w w'
theorem N3 (a b:ByteArray):cmpB a b = -1\/cmpB a b=0\/cmpB a b=1:=by
 unfold cmpB;split
 .exact zt rfl
 .split
  .exact zu (zt rfl)
  .exact zu (zu rfl)
def pC (D:List Int) (n:Nat) (name:ByteArray) (r:Int×Nat×Int) (at_ k:Nat):Prop:=qb D n name (7-k) at_ k=r/\2 ^ k<=at_+1/\k<=7
theorem pC.stop (h:pC D n name r at_ k) (b:n<=at_):r=(0,k,4):=by
 obtain⟨a,_,_⟩:=h;rw[<-a];cases 7-k with
 | zero=>rfl
 | succ f=>rw[qb,zb (by omega)]
theorem pC.small (h:pC D n name r at_ k) (d:at_<n) (e:n<=32):k<=5:=by
 obtain⟨_,b,c⟩:=h;rcases sa 5 k with a|a
 .have:2 ^ 6<=2 ^ k:=Nat.pow_le_pow_right (by omega) a;omega
 .exact a
theorem pC.step (h:pC D n name r at_ k) (c:at_<n) (d:n<=32):r=if cmpB name (rdE D at_).1=0 then ((rdE D at_).2,k+1,0) else if cmpB name (rdE D at_).1<0 then qb D n name (7-(k+1)) (2*at_+1) (k+1) else qb D n name (7-(k+1)) (2*at_+2) (k+1):=by
 have b:=h.small c d;obtain⟨a,_,_⟩:=h;have e:7-k=(7-(k+1))+1:=by omega
 rw[e,qb,ze c]at a;exact a.symm
theorem RO (v:Value) (D:List Int) (name:ByteArray) (w:World) (h:tQ w v D) (hD:no D) (aa:sI D=true):
 Calls prog 106 #[v,.string name] w (YB (vz D name) w):=by
 obtain⟨hm,B,_,_⟩:=(ny D).1 aa;obtain⟨N,R⟩:=zD D.length;obtain⟨p,cp,rfl⟩:=mH h.1 N R.o;have X:=Lib.hid (WD (p,N,cp) D w h hD (by omega));obtain⟨n,Hn⟩:=zD (N / 16);rw[R.o]at hm B;have m:N=16*n:=by have:=Hn.o;omega
 have q:n<=32:=by omega
 have y:=Lib.hid m;obtain⟨r,Hr⟩:=zD (vz D name);rw[Hr.o];have ac:Hid (pC D n name r 0 0):=by refine⟨?_,by omega,by omega⟩;have:=Hr.o;unfold vz at this;rw[R.o,Hn.o]at this;exact this
 have ad:=Lib.hid h;have HD:=Lib.hid hD;have ab:=Lib.hid aa;clear h hD aa hm m;go_enter func106,ntmps106;go_wp2_with fail
 refine X.o.mono ?_;intro e w1 P;obtain⟨_,ov,rfl,_,U⟩|⟨s,_⟩:=P;case inr=>rw[ab.o]at s;cases s
 have ae:=Lib.hid U;clear U;go_wp2;go_loopw [5,9] (fun s5 Y wr=>∃a k:Nat,a<=1000/\k<=7/\Y=.int .i64 (a:Int)/\s5=.int .i64 (k:Int)/\Hid (pC D n name r a k)/\Below w w wr) (fun s5 Y _=>n-(intOf Y).toNat);case atStart=>exact⟨0,0,by omega,by omega,rfl,rfl,ac,ae.o⟩
 case round=>
  obtain⟨a,k,ax,hk,rfl,rfl,j,HB⟩:=hrel;obtain⟨u,am⟩:∃b,16*a=b:=⟨_,rfl⟩;have w4:IntKind.i64.wrap (16*(a:Int))=(u:Int):=by rw[zQ _ (by omega)];omega
  by_cases F:a<n
  .have E:(u:Int)<(N:Int):=(by have:=y.o;omega);obtain⟨z,l⟩:=zD (k+1);obtain⟨K,f⟩:=zD (2*a+1);obtain⟨S,g⟩:=zD (2*a+2);have w0:IntKind.i64.wrap ((k:Int)+1)=(z:Int):=(by rw[zQ _ (by omega)];have:=l.o;omega);have w1:IntKind.i64.wrap (2*(a:Int))=2*(a:Int):=zQ _ (by omega);have w2:IntKind.i64.wrap (2*(a:Int)+1)=(K:Int):=(by rw[zQ _ (by omega)];have:=f.o;omega);have w3:IntKind.i64.wrap (2*(a:Int)+2)=(S:Int):=(by rw[zQ _ (by omega)];have:=g.o;omega);obtain⟨T,L⟩:=zD ((rdE D a).1);obtain⟨x2,C⟩:=zD ((rdE D a).2);have i:=Z8 (p,N,cp) D wr (ad.o.below HB) HD.o a (by rw[R.o];have:=y.o;omega) (by rw[R.o];omega);rw[L.o,C.o]at i;have O:=Lib.hid i;obtain⟨c,Hc⟩:=zD (cmpB name T);have G:Hid (∀W:World,Calls prog 146 #[.string name,.string T] W fun e w'=>e=.returned c/\W=w'):=fun W=>(by rw[<-Hc.o];exact Ik name T W);have t:=j.o.step F q;rw[L.o,C.o,Hc.o,l.o,f.o,g.o]at t;have av:=j.o.small F q;have A:=Lib.hid t;have M:2 ^ z<=K+1:=(by have h1:=j.o.2.1;rw[<-l.o,Nat.pow_succ];have:=f.o;omega);have Z:=Lib.hid M;have d:z<=7:=(by have:=l.o;omega);have V:K<=1000:=(by have:=f.o;omega);have ah:S<=1000:=(by have:=g.o;omega);have ay:n-K<n-a:=(by have:=f.o;omega);have ar:n-S<n-a:=(by have:=g.o;omega);have Q:Hid (2 ^ z<=S+1):=(by show _<=_;have:=f.o;have:=g.o;omega);have H:=N3 name T;rw[Hc.o]at H;clear i t M;go_wp2_with fail
   refine O.o.mono ?_;rintro e w2 ⟨rfl,J⟩;have I:Hid (Below w w w2):=Below.step HB J;have x:Hid (Below w w (w2.alloc (.cells #[.string T,x2] 188))):=I.o.alloc I.o.size _;clear J;go_wp2_with fail
   refine (G.o _).mono ?_;rintro e w' ⟨rfl,rfl⟩;rcases H with rfl|rfl|rfl
   .go_wp2;go_roundw;case rel=>exact⟨K,z,V,d,rfl,rfl,⟨by rw[A.o];rfl,Z.o,d⟩,x.o⟩
    case measure=>simp[intOf];omega
   .have hr:r=(x2,z,0):=(by rw[A.o];rfl);subst hr;go_wp2
    go_returns
    exact⟨rfl,x.o⟩
   .go_wp2;go_roundw;case rel=>exact⟨S,z,ah,d,rfl,rfl,⟨by rw[A.o];rfl,Q.o,d⟩,x.o⟩
    case measure=>simp[intOf];omega
  .have E:¬(u:Int)<(N:Int):=(by have:=y.o;omega);have hr:=j.o.stop (by omega);subst hr;go_wp2
   go_returns
   exact⟨rfl,HB⟩
theorem entZ: ∀w,(zeroValue 188).run prog w=.ok (.agg #[.string {data:=#[]},()]) w:=fun _=>by kernel_rfl
section
variable {P : Program}
theorem IL (w:World) (t e:TypeId) (p:P.underlying t=some (.slice e)) (j:∀w,(zeroValue e).run P w=.ok (.agg #[.string {data:=#[]},()]) w)
 (g o n c:Nat) (cur:Array Value) (k:TypeId) (r:0<n) (q:w.heap[g]?=some (.cells cur k)) (l:o+n*2<=cur.size):
 ∃zs:List Value,zs.length=n*2/\∀ty,(Builtin.clear_ #[t] ty #[(g,o,n,c)]).run P w=.ok (.tuple #[]) (w.setRow g (cur.toList.take o++zs++cur.toList.drop (o+zs.length)).toArray):=by
 have a:((Builtin.zeroCells #[.string {data:=#[]},()] n).toList).length=n*2:=by rw[yp,qF];rfl
 have d:∀v∈(Builtin.zeroCells #[.string {data:=#[]},()] n).toList,v.oneCell'=true:=by intro v j;simp only[Builtin.zeroCells,Array.toList_map,zV]at j;obtain⟨i,_,rfl⟩:=j;have f:i%2<2:=rH _ (by omega);show (#[Value.string {data:=#[]},Value.int .i64 0][i%2]!).oneCell'=true;rcases (by omega:i%2=0\/i%2=1) with h|h<;>rw[h]<;>rfl
 refine⟨_,a,fun ty=>?_⟩;have b:=vE P g o k (Builtin.zeroCells #[.string {data:=#[]},()] n).toList 0 cur w q (by rw[a];omega) d;simp only[vA]at b;obtain⟨m,rfl⟩:∃m,n=m+1:=⟨n-1,by omega⟩;simp[Builtin.clear_,wy p,j,Value.cells,b]
end
theorem K3 {a:World} (h:Below B a w) {g:Nat} (c:B<=g) (cs:Array Value):Below B a (w.setRow g cs):=
 ⟨h.os,h.tape,h.output,by have:=h.size;simp only[World.setRow,nW];exact this,fun k b=>by rw[yZ _ _ _ _ (by omega)];exact h.block k b⟩
theorem Lu (aa:Nat) (v:Value) (l:List En) (w:World) (ab:w.ownsRow aa 188 2 v l.length (ents l)) (i:Nat) (hi:i<l.length) (hl:l.length<=1000000) (j:Nat) (hj:i+1=j) (ad:aa<=w.heap.size):
 Calls prog 197 #[v,i,j] w fun e w'=>∃v',e=.returned v'/\w'.ownsRow aa 188 2 v' (l.eraseIdx i).length (ents (l.eraseIdx i))/\Below aa w w':=by
 have _:=ad;obtain⟨n,M⟩:=zA l.length;rw[<-M.o]at hi hl ab;obtain⟨m,r⟩:∃m,Hid (m+1=n):=⟨n-1,by show _=_;omega⟩;obtain⟨an,⟨_,h0⟩|⟨g,c,a,rfl,T,Z,hc,W,hs,Y⟩⟩:=ab
 .omega
 obtain⟨i0,av,ao,ax,au⟩:=xp Wq;have k:(l.eraseIdx i).length=m:=by rw[List.length_eraseIdx,ze (by rw[<-M.o];exact hi),<-M.o];have:=r.o;omega
 have J:ents (l.eraseIdx i)=ents (l.take i)++ents (l.drop j):=by rw[List.eraseIdx_eq_take_drop_succ,fV,hj]
 have N:(ents (l.take i)).length=i*2:=by rw[lR,zi,<-M.o];congr 1;omega
 have d:(ents (l.drop j)).length=(n-j)*2:=by rw[lR,yx,<-M.o]
 have h:∀(q:Nat) (u:Value),(ents (l.drop j))[q]?=some u->w.drew.cell? (g,j*2+q)=some u:=fun q u hq=>by
  have ae:=(zy.1 hq).1;rw[d]at ae;show w.cell? (g,j*2+q)=some u;rw[zC Z];have e:ents l=ents (l.take j)++ents (l.drop j):=by rw[<-fV,xO]
  have e2:(ents (l.take j)).length=j*2:=by rw[lR,zi,<-M.o];congr 1;omega
  have D:(ents l)[j*2+q]?=some u:=by rw[e,zx (by omega),e2,show j*2+q-j*2=q by omega];exact hq
  rw[<-Y,zI,ze (by omega)]at D;simpa using D
 have B:∀(b o q:Nat),(⟨b,o,none⟩:Addr).add q=⟨b,o+q,none⟩:=fun b o q=>by unfold Addr.add;split<;>simp_all
 have ap:i+(n-j)=m:=by have:=r.o;omega
 obtain⟨t,I⟩:=zD ((a.toList.take (i*2)++ents (l.drop j)++a.toList.drop (i*2+(n-j)*2)).toArray);have F:(loadCellsFrom ⟨g,j*2,none⟩ 0 ((n-j)*2) #[]).run prog w.drew=.ok (ents (l.drop j)).toArray w.drew:=by have:=si (P:=prog) (w:=w.drew) ⟨g,j*2,none⟩ (ents (l.drop j)) (fun q u hq=>by rw[B];exact h q u hq);rw[d]at this;exact this
 have f:(storeCells ⟨g,i*2,none⟩ (ents (l.drop j))).run prog w.drew=.ok () (w.drew.setRow g t):=by have:=vE (P:=prog) g (i*2) 188 (ents (l.drop j)) 0 a w.drew Z (by rw[d,hs];omega) (LQ _);rw[d,vA,I.o]at this;exact this
 have p:t.size=c*2:=by rw[<-I.o];simp only[us,zl,zi,yx,d,yp,hs];omega
 have z:t.toList.take (m*2)=ents (l.eraseIdx i):=by
  rw[<-I.o,J];have e1:(a.toList.take (i*2))=ents (l.take i):=by
   have e:ents l=ents (l.take i)++ents (l.drop i):=(by rw[<-fV,xO]);have D:=congrArg (List.take (i*2)) Y;rw[vf,e,yR (by omega),zv (l:=ents (l.take i)) (by omega)]at D;rw[<-D]
   congr 1
   omega
  rw[e1];have h2:(ents (l.take i)++ents (l.drop j)).length=m*2:=by rw[zl,N,d];omega
  rw[yR (by omega),zv (by omega)]
 have x:(w.drew.setRow g t).heap[g]?=some (.cells t 188):=yi _ _ _ _ _ _ Z;obtain⟨w2,R⟩:=zD (w.drew.setRow g t);rw[R.o]at f x;obtain⟨zs,Q,C⟩:=IL (P:=prog) w2 184 188 oM entZ g (m*2) (n-m) (c-m) t 188 (by have:=r.o;omega) x (by rw[p];have:=r.o;omega);obtain⟨w3,L⟩:=zD (w2.setRow g (t.toList.take (m*2)++zs++t.toList.drop (m*2+zs.length)).toArray);rw[L.o]at C;have S:Hid (w3.ownsRow aa 188 2 (g,0,m,c) (l.eraseIdx i).length (ents (l.eraseIdx i))/\Below aa w w3):=by
  constructor
  .rw[k];refine⟨by rw[lR,k],zu ⟨g,c,_,rfl,T,by rw[<-L.o];exact yi _ _ _ _ _ _ x,by have:=r.o;omega,W,?_,?_⟩⟩
   .simp only[us,zl,zi,yx,Q,yp,p];have:=r.o;omega
   .rw[z];have h2:(ents (l.eraseIdx i)).length=m*2:=(by rw[lR,k]);rw[zU,yR (by omega),zv (by omega)]
  .rw[<-L.o,<-R.o];exact K3 (K3 zB.drew T _) T _
 have k1:¬(i:Int)=(j:Int):=by omega
 have k2:(i:Int)<=(j:Int):=by omega
 have k3:(j:Int)<=(n:Int):=by omega
 have k4:(n:Int)<=(c:Int):=by omega
 have k5:(i:Int)<=(c:Int):=by omega
 have k6:(m:Int)<=(n:Int):=by have:=r.o;omega
 have k7:¬c=m:=by have:=r.o;omega
 have k8:¬n=i:=by omega
 have k9:¬c=i:=by omega
 have V:=Lib.hid Z;have af:=Lib.hid J;have HT:=Lib.hid Y;have X:=Lib.hid hs;have s:=Lib.hid N;have U:=Lib.hid k;clear h B k J N d Y hs p z x Q;by_cases ac:c=j
 .have ag:n=j:=by omega
  have K:i=m:=by have:=r.o;omega
  obtain⟨y,A,H⟩:=IL (P:=prog) w.drew 184 188 oM entZ g (i*2) (n-i) (j-i) a 188 (by omega) V.o (by rw[X.o];omega);obtain⟨w4,G⟩:=zD (w.drew.setRow g (a.toList.take (i*2)++y++a.toList.drop (i*2+y.length)).toArray);rw[G.o]at H;have E:Hid (w4.ownsRow aa 188 2 (g,0,i,j) (l.eraseIdx i).length (ents (l.eraseIdx i))/\Below aa w w4):=by
   have O:l.drop j=[]:=vm (by rw[<-M.o];omega);have e0:ents (l.eraseIdx i)=ents (l.take i):=(by rw[af.o,O];simp[ents]);have e1:a.toList.take (i*2)=ents (l.take i):=by
    have e:ents l=ents (l.take i)++ents (l.drop i):=(by rw[<-fV,xO]);have D:=congrArg (List.take (i*2)) HT.o;rw[vf,e,yR (by rw[s.o];exact zL),zv (l:=ents (l.take i)) (by rw[s.o];exact zL)]at D;rw[<-D]
    congr 1
    omega
   constructor
   .rw[U.o];refine⟨by rw[lR,U.o],zu ⟨g,j,_,by rw[K],T,by rw[<-G.o];exact yi _ _ _ _ _ _ V.o,by have:=r.o;omega,by rw[<-ac];exact W,?_,?_⟩⟩
    .simp only[us,zl,zi,yx,A,yp,X.o];omega
    .rw[e0,<-K];show ((a.toList.take (i*2)++y++a.toList.drop (i*2+y.length))).take (i*2)=_;rw[e1,zU,yR (by rw[s.o];exact zL),zv (by rw[s.o];exact zL)]
   .rw[<-G.o];exact K3 zB.drew T _
  have ah:n-j=0:=by omega
  clear F f C A ag K;go_enter func197,ntmps197;go_wp2
  go_still_tail 6,(by kernel_rfl)
  go_wp2_with fail
  go_ret;exact⟨_,rfl,E.o⟩
 .go_enter func197,ntmps197
  go_wp2
  go_still_tail 6,(by kernel_rfl)
  go_wp2;go_ret;exact⟨_,rfl,S.o⟩
def tC (D:List Int) (x:En):Int:=if okE x=false then 3 else if (outD D).any (fun y=>decide (x.1=y.1))=true then 5 else if (outD D).length=32 then 6 else 0
theorem VD {x:En} (h:sI D=true) (m:tC D x=0):tW (outD D++[x])=0:=by
 obtain⟨_,l,_,_⟩:=lr h;have g:=(rZ _).1 l;unfold tC at m;by_cases d:okE x=false
 .rw[ze d]at m;cases m
 rw[zb d]at m;by_cases f:(outD D).any (fun y=>decide (x.1=y.1))=true
 .rw[ze f]at m;cases m
 rw[zb f]at m;by_cases j:(outD D).length=32
 .rw[ze j]at m;cases m
 rw[rZ,zl];refine⟨by have:=g.1;simp;omega,fun y c=>?_,?_⟩
 .rcases yv.1 c with c|c
  .exact g.2.1 y c
  .rw[xw]at c;subst c;simpa using d
 .rw[yB,wZ];refine⟨g.2.2,by simp,fun a k b i e=>f ?_⟩;obtain⟨y,c,rfl⟩:=zV.1 k;simp at i;rw[xX];exact⟨y,c,by simp[e,i]⟩
def iu (D:List Int) (x:En) (w:World) (e:Ending) (w':World):Prop:=(tC D x=0/\jv (outD D++[x]) w e w')\/(tC D x≠0/\e=.returned (.tuple #[.slice none 0 0,.int .i64 (tC D x)])/\Below w w w')
theorem Pk (h:w.ownsRow base e size v n xs) (hB:B<=base) (f:v.ownBlock=some k):B<=k:=by
 obtain⟨_,⟨a,_⟩|⟨g,c,b,a,d,_⟩⟩:=h
 .rw[a]at f;simp[Value.ownBlock]at f
 .rw[a]at f;have:g=k:=by simpa[Value.ownBlock]using f
  omega
theorem UP (v:Value) (D:List Int) (x:En) (w:World) (h:tQ w v D) (hD:no D) (ak:sI D=true):
 Calls prog 120 #[v,.agg #[.string x.1,x.2]] w (iu D x w):=by
 obtain⟨hm,a5,_,_⟩:=(ny D).1 ak;obtain⟨N,HN⟩:=zD D.length;obtain⟨p,cp,rfl⟩:=mH h.1 N HN.o;have HR:=Lib.hid (fun hp:tC D x=0=>VD ak hp);obtain⟨n,S⟩:=zD ((outD D).length);have a4:n<=32:=by rw[<-S.o,(lr ak).2.2.1];omega
 obtain⟨r,Hr⟩:=zD (tC D x);have g:=Hr;unfold tC at g;unfold iu;rw[Hr.o];rw[S.o]at g;rw[Hr.o]at HR;obtain⟨a,d⟩:=x;obtain⟨i0,af,X,ag,O⟩:=xp Wq;have HI:=Lib.hid af;have az:=Lib.hid X;have a0:=Lib.hid ag;have an:=Lib.hid O;obtain⟨H,P⟩:=zD (w.alloc (.cells #[.string a,d] 188));have L:Below w w H:=by rw[<-P.o];exact zB.alloc zL _
 have V:H.heap[w.heap.size]?=some (.cells #[.string a,d] 188):=by rw[<-P.o];exact zH
 have ai:=Lib.hid (WD (p,N,cp) D H (h.below L) hD (by omega));have ad:=Lib.hid V;have ab:=Lib.hid L;have au:=Lib.hid ak;clear h hD ak af X ag O hm L V;go_enter func120,ntmps120;go_wp2_with fail
 rw[P.o];refine ai.o.mono ?_;intro e T ae;obtain⟨_,ov,rfl,j,C⟩|⟨F,_⟩:=ae;case inr=>rw[au.o]at F;cases F
 rw[S.o]at j;obtain⟨q,c,rfl,_⟩:=tR j;have B:=(C.block _ (xL ad.o)).trans ad.o;have a1:T.cell? (w.heap.size,0)=some (.string a):=zC B;have a2:T.cell? (w.heap.size,1)=some (.int .i64 d):=zC B;have aa:=Lib.hid B;have al:=Lib.hid j;have A:Hid (Below w w T):=Below.step ab.o C;have HZ:Hid (H.heap.size<=T.heap.size):=C.size;obtain⟨nm,J⟩:=zD (ru a);have aq:Hid (∀W:World,Calls prog 104 #[.string a] W fun e w'=>e=.returned (.bool nm)/\W=w'):=fun W=>by rw[<-J.o];exact gV a W
 obtain⟨b,Hb⟩:=zD ((outD D).any (fun y=>decide (a=y.1)));have Z:rB T (q,n,c) (outD D):=by unfold rB;rw[S.o];exact xT.of_owns j
 have Q:=Xb 157 Le (w.heap.size,()) (fun y=>decide (a=y.1)) _ (outD D) T Z (by rw[S.o];omega) (fun y _ W hW=>SF a y w W (by rw[hW.cell (zG a1)];exact a1));rw[Hb.o]at Q;have ay:=Lib.hid Q;clear Q Z B j C;go_wp2_with fail
 refine (aq.o _).mono ?_;rintro e w' ⟨rfl,rfl⟩;cases nm with
 | false=>
  have s:r=3:=by rw[<-g.o,ze];unfold okE;rw[J.o];rfl
  subst s;go_wp2
  go_returns
  exact zu ⟨by omega,rfl,A.o⟩
 | true=>
  by_cases h1:d<1
  .have s:r=3:=(by rw[<-g.o,ze];unfold okE;simp;omega);subst s;go_wp2
   go_returns
   exact zu ⟨by omega,rfl,A.o⟩
  by_cases h2:32<d
  .have s:r=3:=(by rw[<-g.o,ze];unfold okE;simp;omega);subst s;go_wp2
   go_returns
   exact zu ⟨by omega,rfl,A.o⟩
  have K:Hid ((if b=true then 5 else if n=32 then 6 else 0)=r):=by have ak:okE (a,d)=true:=(by unfold okE;rw[J.o];simp;omega);have h3:=g.o;rw[zb (by rw[ak];decide)]at h3;have h4:((outD D).any fun y=>decide ((a,d).1=y.1))=b:=Hb.o;rw[h4]at h3;exact h3
  go_wp2_with fail
  refine ay.o.mono ?_;rintro e R ⟨rfl,m⟩;have l:Hid (Below w w R):=Below.step A.o m;have E:Hid (R.ownsRow H 188 2 (q,n,c) n (ents (outD D))):=th al.o m;have I:=(m.block _ (xL aa.o)).trans aa.o;have d1:R.cell? (w.heap.size,0)=some (.string a):=zC I;have d2:R.cell? (w.heap.size,1)=some (.int .i64 d):=zC I;have O:H.heap.size<=R.heap.size:=zr HZ.o m.size;clear m I;cases b with
  | true=>
   have ar:r=5:=K.o.symm;subst ar;go_wp2
   go_returns
   exact zu ⟨by omega,rfl,l.o⟩
  | false=>
   by_cases M:n=32
   .have ao:r=6:=(by have:=K.o;rw[zb (by decide),ze M]at this;exact this.symm);subst ao;subst M;go_wp2
    go_returns
    exact zu ⟨by omega,rfl,l.o⟩
   have a7:¬(n:Int)=32:=(by omega);have av:r=0:=(by have:=K.o;rw[zb (by decide),zb M]at this;exact this.symm);subst av;have aw:Hid ((R.alloc (.cells #[.string a,d] 188)).heap[R.heap.size]?=some (.cells #[.string a,d] 188)):=zH;go_wp2_with (at_builtin;refine yH _ rfl _ _ 184 rfl H.heap.size 188 i0 (.agg #[.string {data:=#[]},()]) 2 24 oM HI.o az.o a0.o an.o rfl (by decide) _ _ _ rfl (E.o.alloc _) ⟨_,0,none⟩ 1 1 [.string a,.int .i64 d] rfl rfl (World.news_of_block (cs:=#[.string a,.int .i64 d]) (t:=188) (fr:=(0,0)) aw.o) (by simp[Value.oneCell']) (by unfold maxLen;omega) (by omega) (by simp only[tY];omega) ?_;intro v8 w8 G z _)
   have f:w8.ownsRow H 188 2 v8 (outD D++[(a,d)]).length (ents (outD D++[(a,d)])):=(by rw[zl,S.o,fV];exact G);have U:Below w w w8:=xC (l.o.alloc l.o.size _) z (by have:=l.o.size;simp only[tY];omega) (fun k hk=>Pk E.o ab.o.size hk);have HL:=Lib.hid (iI v8 (outD D++[(a,d)]) w8 ⟨xT.of_owns f,lL f⟩ (HR.o trivial));have ac:=Lib.hid U;clear f U G z;refine HL.o.mono ?_;rintro e w9 ⟨u,rfl,hu,ah,Y⟩;have aj:Hid (∀b,u.ownBlock=some b->w.heap.size<=b):=fun b hb=>zr ac.o.size (ah b hb);have HU:=Lib.hid hu;have ap:Hid (Below w w w9):=Below.step ac.o Y;clear hu Y ah;go_wp2
   go_returns
   have i:jv (outD D++[(a,d)]) w (.returned (.tuple #[u,()])) w9:=⟨u,rfl,HU.o,aj.o,ap.o⟩
   first
    | exact i
    | exact zt i
    | exact zt ⟨rfl,i⟩
theorem Pm (h:sI D=true) (i:Nat):tW ((outD D).eraseIdx i)=0:=by obtain⟨_,c,_,_⟩:=lr h;have a:=(rZ _).1 c;have b:=List.eraseIdx_sublist (outD D) i;rw[rZ];exact⟨zr b.length_le a.1,fun x d=>a.2.1 x (b.subset d),(b.map (·.1)).nodup a.2.2⟩
def OutNew (D:List Int) (name:ByteArray) (w:World) (e:Ending) (w':World):Prop:=
 ((∀x∈outD D,decide (name=x.1)=false)/\e=.returned (.tuple #[.slice none 0 0,(4:Int)])/\Below w w w') \/
 (∃(i:Nat) (hi:i<(outD D).length),decide (name=(outD D)[i].1)=true/\jv ((outD D).eraseIdx i) w e w')
theorem US (v:Value) (D:List Int) (name:ByteArray) (w:World) (h:tQ w v D) (hD:no D) (aj:sI D=true):
 Calls prog 151 #[v,.string name] w (OutNew D name w):=by
 obtain⟨hm,ah,_,_⟩:=(ny D).1 aj;obtain⟨N,HN⟩:=zD D.length;obtain⟨p,cp,rfl⟩:=mH h.1 N HN.o;have HR:=Lib.hid (Pm aj);obtain⟨n,z⟩:=zD ((outD D).length);have ag:n<=32:=by rw[<-z.o,(lr aj).2.2.1];omega
 obtain⟨x,t⟩:=zD (w.alloc (.cells #[.string name] 9));have s:Below w w x:=by rw[<-t.o];exact zB.alloc zL _
 have B:x.heap[w.heap.size]?=some (.cells #[.string name] 9):=by rw[<-t.o];exact zH
 have S:=Lib.hid (WD (p,N,cp) D x (h.below s) hD (by omega));have K:=Lib.hid B;have I:=Lib.hid s;have Z:=Lib.hid aj;clear h hD aj hm s B;go_enter func151,ntmps151;go_wp2_with fail
 rw[t.o];refine S.o.mono ?_;intro e M L;obtain⟨_,ov,rfl,d,k⟩|⟨l,_⟩:=L;case inr=>rw[Z.o]at l;cases l
 have m:=d;rw[z.o]at d;obtain⟨q,c,rfl,_⟩:=tR d;have O:=(k.block _ (xL K.o)).trans K.o;have a1:M.cell? (w.heap.size,0)=some (.string name):=zC O;have U:=Lib.hid m;have ab:Hid (Below w w M):=Below.step I.o k;have ae:x.heap.size<=M.heap.size:=k.size;have G:rB M (q,n,c) (outD D):=by unfold rB;rw[z.o];exact xT.of_owns d
 have Q:=Xa 196 Lf (w.heap.size,()) (fun y=>decide (name=y.1)) _ (outD D) M G (by rw[z.o];omega) (fun y _ W hW=>SR name y w W (by rw[hW.cell (zG a1)];exact a1));have af:=Lib.hid Q;clear Q G O d k m;go_wp2_with fail
 refine af.o.mono ?_;rintro e R ⟨r,rfl,hr,g⟩;have F:Hid (Below w w R):=Below.step ab.o g;have E:Hid (R.ownsRow x 188 2 (q,n,c) (outD D).length (ents (outD D))):=th U.o g;have aa:x.heap.size<=R.heap.size:=zr ae g.size;clear g;obtain⟨rfl,a⟩|⟨i,hi,rfl,hT,_⟩:=hr
 .have V:=Lib.hid a;clear a;go_wp2
  go_returns
  exact zt ⟨V.o,rfl,F.o⟩
 .have HT:Hid (decide (name=(outD D)[i].1)=true):=hT;have Y:=Lib.hid hi;obtain⟨j,Hj⟩:=zD (i+1);have T:=hi;rw[z.o]at T;have wj:IntKind.i64.wrap ((i:Int)+1)=(j:Int):=by rw[zQ _ (by omega)];have:=Hj.o;omega
  have ai:¬(i:Int)<0:=by omega
  have A:=Lib.hid (Lu x (q,n,c) (outD D) R E.o i hi (by rw[z.o];omega) j Hj.o aa);clear hT;go_wp2_with fail
  refine A.o.mono ?_;rintro e w3 ⟨v3,rfl,f,H⟩;have J:Hid (Below w w w3):=F.o.trans (H.mono I.o.size);have HL:=Lib.hid (iI v3 ((outD D).eraseIdx i) w3 ⟨xT.of_owns f,lL f⟩ (HR.o i));clear f H;go_wp2_with fail
  refine HL.o.mono ?_;rintro e w4 ⟨u,rfl,hu,C,P⟩;have HU:=Lib.hid hu;have X:Hid (∀b,u.ownBlock=some b->w.heap.size<=b):=fun b hb=>zr J.o.size (C b hb);have ad:Hid (Below w w w4):=Below.step J.o P;clear hu P C;go_wp2
  go_returns
  exact zu ⟨i,Y.o,HT.o,u,rfl,HU.o,X.o,ad.o⟩
