import Derived.Test.YtmanoiagchpelaaGreatDoorKA20
import Derived.Deep.OwnRows
import Derived.Laws.EntriesVeiled
import Derived.Deep.RegionHeldLaw
import Derived.Lib.SlBytesRow
import Derived.Deep.RegionHeld3
import Derived.Deep.DrawnRows
import Derived.Deep.AppendLies
import Derived.BigRegion
set_option maxHeartbeats 0
set_option linter.all false
set_option maxRecDepth 100000
namespace Go.Proofs.YtmanoiagchpelaaGreatDoor
open Go.Proofs.Tryz Go.RowKit
variable {D:List Int} {l:List En} {n:Nat} {o:Obj} {v:Value} {w w':World}
abbrev ul:=@NoPanic.normal
abbrev vF:=@wp_region_noPanic
theorem SX: (prog.info? 5).map (fun i=>(i.zero,i.size,i.bytes))=some (some (.int .u8 0),1,1):=by kernel_rfl
theorem Oe (n:Nat):madeCells #[Value.int .u8 0] n=(u8s (List.replicate n 0)).toArray:=by
 apply xa;intro i;unfold madeCells u8s;by_cases h:i<n
 .simp[h,qK]
 .simp[h]
theorem Oc (n:Nat) (x:Int) (a:x=n) (b:n<=1000000) (W:World):(Instr.makeSlice 56 (.int .i64 x) (.int .i64 x)).run prog W=.ok (W.heap.size,0,n,n) (W.alloc (.cells (u8s (List.replicate n 0)).toArray 5)):=by subst a;rw[<-Oe];exact run_make_row' 56 5 (.int .u8 0) 1 iG SX rfl .i64 .i64 n (by omega) (by omega) W
theorem si (w:World) (o:Obj):(w.alloc o).heap.size=w.heap.size+1:=by show (w.heap.push _).size=_;simp
theorem oB {i:Nat} (h:i<w.heap.size):(w.alloc o).heap[i]?=w.heap[i]? :=((x9 w w).alloc zL o).block i h
theorem jR (h:n=w.heap.size):(w.alloc o).heap[n]?=some o:=by subst h;exact zT w o
theorem Gx {g cap:Nat} {t:TypeId} {fr:Nat×Nat} (h:w.heap[g]?=some (.cells (u8s D).toArray t fr)) (b:D.length=n):vQ w (g,0,n,cap) D:=by refine⟨by rw[uo];omega,zu ⟨g,0,cap,by rw[b],fun j x a=>?_⟩⟩;rw[zC h,yO,<-a,<-zO]
structure jc (w:World) (v:Value) (l:List En):Prop where
 at_:rM w v l
 cap:kO v
structure sx (w:World) (v:Value) (D:List Int):Prop where
 at_:vQ w v D
 cap:kO v
theorem sx.below (h:sx w v D) (a:Below w w w'):sx w' v D:=⟨wh.below h.1 a,h.2⟩
def LayOk (l:List En) (w:World) (e:Ending) (w':World):Prop:=∃v,e=.returned (.tuple #[v,()])/\sx w' v (layD l)/\Below w w w'
def jK (l:List En) (w:World) (e:Ending) (w':World):Prop:=∃v,e=.returned (.tuple #[v,()])/\sx w' v (layD l)/\(∀b,v.ownBlock=some b->w.heap.size<=b)/\Below w w w'
theorem jK.ok {e:Ending} (h:jK l w e w'):LayOk l w e w':=by obtain⟨v,c,a,_,b⟩:=h;exact⟨v,c,a,b⟩
theorem Sc (v:Value) (l:List En) (w:World) (h:jc w v l) (q:l.length<=1000000) (r:Int) (n:sf l=r) (m:r≠0):
 Calls prog 124 #[v] w fun e w'=>e=.returned (.tuple #[.slice none 0 0,r])/\Below w w w':=by
 obtain⟨N,i⟩:=zA l.length;obtain⟨p,a,rfl,_⟩:=Zs h.1 N i.o;have b:Hid (Below w w (w.alloc (.cells #[(p,N,a)] 42))):=zB.alloc zL _;have j:Hid (Calls prog 163 #[(p,N,a)] (w.alloc (.cells #[(p,N,a)] 42)) fun e w'=>e=.returned r/\Below (w.alloc (.cells #[(p,N,a)] 42)).heap.size (w.alloc (.cells #[(p,N,a)] 42)) w'):=by have:=Iu (p,N,a) l (w.alloc (.cells #[(p,N,a)] 42)) (h.1.below b.o) h.2 q;rw[n]at this;exact this
 have g:(r==0)=false:=by rw[xr];exact m
 have k:(r != 0)=true:=by simp[bne,g]
 clear h n;go_enter func124,ntmps124;go_wp2_with fail
 refine j.o.mono ?_;rintro e f ⟨rfl,c⟩;have d:Hid (Below w w f):=zf b.o c;clear c;go_wp2
 go_returns
 exact⟨rfl,d.o⟩
theorem i7 (v:Value) (l:List En) (w:World) (h:jc w v l) (hr:sf l=0):
 Calls prog 124 #[v] w (jK l w):=by
 have hz:=(rO l).1 hr;have HZ:=za hz;have hl:=hz.1;obtain⟨N,F⟩:=zA l.length;rw[<-F.o]at hl;obtain⟨p,E,rfl,_⟩:=Zs h.1 N F.o;have ap:Hid (Below w w (w.alloc (.cells #[(p,N,E)] 42))):=zB.alloc zL _;have HR:Hid (Calls prog 163 #[(p,N,E)] (w.alloc (.cells #[(p,N,E)] 42)) fun e w'=>e=.returned ()/\Below (w.alloc (.cells #[(p,N,E)] 42)).heap.size (w.alloc (.cells #[(p,N,E)] 42)) w'):=by have:=Iu (p,N,E) l (w.alloc (.cells #[(p,N,E)] 42)) (h.1.below ap.o) h.2 (by rw[<-F.o];omega);rw[hr]at this;exact this
 have HH:=za h;have an:=zT w (.cells #[(p,N,E)] 42);have aw:=za an;clear h hr hz an;obtain⟨M,HM⟩:=zD (16*N);have wm:IntKind.i64.wrap (16*(N:Int))=(M:Int):=by rw[zQ _ (by omega)];have:=HM.o;omega
 obtain⟨Z,ab⟩:=zA (List.replicate M (0:Int));have aV:∀W:World,(Instr.makeSlice 56 (.int .i64 (M:Int)) (.int .i64 (M:Int))).run prog W=.ok (W.heap.size,0,M,M) (W.alloc (.cells (u8s Z).toArray 5)):=fun W=>by rw[ab.o];exact Oc M M rfl (by have:=HM.o;omega) W
 go_enter func124,ntmps124
 go_wp2_with fail
 refine HR.o.mono ?_;rintro e w1 ⟨rfl,ac⟩;have S:=(ac.block w (xR aw.o)).trans aw.o;have a1:w1.cell? (w.heap.size,0)=some (.slice p N E):=zC S;have ag:=za S;have V:Hid (Below w w w1):=zf ap.o ac;clear ac S;go_wp2_with fail
 refine (Ko _ l w1 (HH.o.1.below V.o) (by rw[<-F.o];omega)).mono ?_;rintro e w2 ⟨v2,rfl,f,Q,aY⟩;rw[<-F.o]at f;obtain⟨u,y,rfl,_⟩:=tV f;have s:=(Q.block w (xR ag.o)).trans ag.o;have a2:w2.cell? (w.heap.size,0)=some (.slice p N E):=zC s;have f2:w2.frozen? (w.heap.size,0)=false:=zF s;obtain⟨w3,t⟩:=zD (w2.setCell (w.heap.size,0) (u,N,y));have U:w3.heap[w.heap.size]?=some (.cells #[(u,N,y)] 42):=by rw[<-t.o,sL _ _ _ _ _ _ _ s,yh _ _ _ _ _ _ s];rfl
 have k:w3.ownsRow w1 46 2 (u,N,y) N (ents l):=oW f fun b C=>by rw[<-t.o,yE _ _ _ _ (fun e=>qb f s (by decide) (by rw[C,e]))]
 have aq:Hid (Below w w w3):=by rw[<-t.o];exact (zf V.o Q).setCell zL _
 have z:=Rj w1 (u,N,y) l w3 (by rw[<-F.o];exact k) (by rw[<-F.o];omega);have aH:=za z;have ay:=za k;have R:=za U;have a3:w3.cell? (w.heap.size,0)=some (.slice u N y):=zC U;clear f Q s k z U;have K:=a3;rw[<-t.o]at K;go_wp2_with fail
 rw[t.o];refine aH.o.mono ?_;rintro e a ⟨rfl,T,hp,hs,A,a0⟩;have aa:yQ (fun i=>(Value.slice u N y).ownBlock=some i) w3 a:=yQ.grown a0 fun r hr=>hr;have am:∀i,(Value.slice u N y).ownBlock=some i->w1.heap.size<=i:=fun i D=>by
  obtain⟨_,⟨I,_⟩|⟨g,X,P,I,hg,_⟩⟩:=ay.o
  .rw[I]at D;simp[Value.ownBlock]at D
  .rw[I]at D;have:g=i:=(by simpa[Value.ownBlock]using D);rw[<-this];exact hg
 have J:=(aa.block w (xR R.o) (qb ay.o R.o (by decide))).trans R.o;have a4:a.cell? (w.heap.size,0)=some (.slice u N y):=zC J;have ao:Below w w a:=aq.o.trans (aa.to_below (fun i D=>zt V.o.size (am i D)) aq.o.size);have aB:=za J;have H:=za ao;have aE:=za A;have G:=za hp;have aF:=za hs;have aj:w.heap.size<a.heap.size:=xR J;have aK:¬w.heap.size=a.heap.size:=by omega
 clear hp hs A a0 aa am J ao K a1 a2 a3 f2 t;obtain⟨L,m⟩:=zD ((((a.alloc (.cells (u8s Z).toArray 5)).alloc (.cells #[(a.heap.size,0,M,M)] 56)).alloc (.cells #[()] 3)).alloc (.cells #[.func (.func 168) #[] #[(w.heap.size,()),.pointer (some ⟨a.heap.size+1+1+1,0,none⟩),.pointer (some ⟨a.heap.size+1,0,none⟩),.pointer (some ⟨a.heap.size+1+1,0,none⟩)]] 81));have q:∀i,i<a.heap.size->L.heap[i]?=a.heap[i]? :=fun i D=>by rw[<-m.o,oB (by simp only[si];omega),oB (by simp only[si];omega),oB (by simp only[si];omega),oB D]
 have ak:L.heap[a.heap.size]?=some (.cells (u8s Z).toArray 5):=by rw[<-m.o,oB (by simp only[si];omega),oB (by simp only[si];omega),oB (by simp only[si];omega),jR rfl]
 have ax:L.heap[a.heap.size+1]?=some (.cells #[(a.heap.size,0,M,M)] 56):=by rw[<-m.o,oB (by simp only[si];omega),oB (by simp only[si];omega),jR (by simp only[si])]
 have ah:L.heap[a.heap.size+1+1]?=some (.cells #[()] 3):=by rw[<-m.o,oB (by simp only[si];omega),jR (by simp only[si])]
 have au:L.heap[a.heap.size+1+1+1]?=some (.cells #[.func (.func 168) #[] #[(w.heap.size,()),.pointer (some ⟨a.heap.size+1+1+1,0,none⟩),.pointer (some ⟨a.heap.size+1,0,none⟩),.pointer (some ⟨a.heap.size+1+1,0,none⟩)]] 81):=by rw[<-m.o,jR (by simp only[si])]
 have ar:Below w w L:=by rw[<-m.o];have s1:=H.o.size;exact (((H.o.alloc s1 _).alloc (by simp only[si];omega) _).alloc (by simp only[si];omega) _).alloc (by simp only[si];omega) _
 have af:T.length=N:=by rw[G.o.length_eq,<-F.o]
 have B:a.ownsRow 0 46 2 (u,N,y) N (ents T):=by have h:=aE.o;rw[<-F.o]at h;exact⟨h.1,h.2.elim zr (fun ⟨g,X,P,I,_,r⟩=>zu ⟨g,X,P,I,ye _,r⟩)⟩
 have O:oU w (a.heap.size+1+1+1) (a.heap.size+1) (a.heap.size+1+1) a u N y M M T Z 0 L:=by
  refine⟨?_,af,oW B fun b C=>?_,au,?_,?_,?_,?_,zL,HM.o.symm⟩
  .rw[q _ aj];exact aB.o
  .have aD:b<a.heap.size:=by
    obtain⟨_,⟨I,_⟩|⟨g,X,P,I,_,hh,_⟩⟩:=B
    .rw[I]at C;simp[Value.ownBlock]at C
    .rw[I]at C;have:g=b:=(by simpa[Value.ownBlock]using C);rw[<-this];exact xR hh
   rw[q _ aD]
  .exact ax
  .exact ak
  .exact ah
  .rw[ab.o,yN]
 have av:Hid (∀x∈T,x.1.size<=14/\0<=x.2/\x.2<=255):=fun x hx=>by have h1:=jF (HZ.o.2.1 x (G.o.mem_iff.1 hx));exact⟨(Ut h1.1).1,by omega,by omega⟩
 have j:=R5 w (a.heap.size+1+1+1) (a.heap.size+1) (a.heap.size+1+1) a u N y M M T av.o hl N 0 0 Z L (by omega) (by rw[(ZD hl).2.1];omega) O (by omega);rw[show ((0:Nat):Int)=0 from rfl]at j;have Y:=za j;have al:=za ar;clear j ar O B au ah ax ak q;go_wp2_with fail
 rw[m.o];refine Y.o.mono ?_;rintro e w7 ⟨rfl,hL,hk⟩;have a7:w7.cell? (a.heap.size+1,0)=some (.slice (some ⟨a.heap.size,0,none⟩) M M):=zC hL.o;have hD:layF Z ((ino N 0).zip (T.drop 0))=layD l:=by have hT:T=o9 l:=Xt G.o (Wv aF.o (((G.o.map (·.1)).nodup_iff).2 HZ.o.2.2));unfold layD layS;rw[<-hT,af,wT,ab.o,HM.o]
 have az:Below w w w7:=al.o.trans (hk.to_below (fun i D=>by have:=H.o.size;rcases D with rfl|rfl<;>omega) al.o.size);have ai:Hid (jK l w (.returned (.tuple #[(a.heap.size,0,M,M),()])) w7):=by
  refine⟨_,rfl,⟨?_,fun p n c he=>?_⟩,fun b C=>?_,az⟩
  .have h1:=hL.b;rw[hD]at h1;have h2:=hL.d;rw[hD]at h2;exact Gx h1 h2
  .injection he with _ e2 e3;omega
  .injection C with C;have aW:a.heap.size=b:=C;have:=H.o.size;omega
 clear hL hk hD az;go_wp2
 go_returns
 exact ai.o
theorem lay_ok (v) (l) (w) (h:jc w v l) (b:sf l=0):
 Calls prog 124 #[v] w (LayOk l w):=
 (i7 v l w h b).mono fun _ _ a=>a.ok
open Go.Shelf
def nt (D:List Int):Prop:=∀x∈D,0<=x/\x<=255
theorem UR {E:List Int} {o:Nat} (h:nt D) (c:nt E):nt (over D o E):=fun x a=>by
 have b:x∈D.take o\/x∈E\/x∈D.drop (o+E.length):=by have:=a;unfold over at this;simpa only[yo]using this
 clear a;rcases b with a|a|a
 .exact h x (yY a)
 .exact c x a
 .exact h x (wd a)
theorem QY (s:ByteArray):nt (bI s):=fun x a=>by obtain⟨b,_,rfl⟩:=zU.1 a;have:=b.toNat_lt;omega
theorem Ii : ∀(P:List (Nat×En)) (D:List Int),nt D->(∀p∈P,0<=p.2.2/\p.2.2<=255)->nt (layF D P)
 | [],_,h,_=>h
 | p::P,D,h,b=>by
  refine Ii P (putE D p) (fun x a=>?_) (fun q c=>b q (by simp[c]));unfold putE at a;rcases vv a with a|a
  .exact UR h (QY _) x a
  .rw[a];exact b p (by simp)
theorem Nf (h:sf l=0):nt (layD l):=by
 obtain⟨d,b,_⟩:=V8 h;unfold layD layS;refine Ii _ _ (fun x c=>?_) fun p a=>?_
 .rw[uX]at c;omega
 .have:=jF (b p.2 (kw a).2);omega
theorem Pp: prog.underlying 9=some .string:=by kernel_rfl
theorem Kc (h:vQ w v D) (d:0<D.length):(convert 56 9 v).run prog w=.ok (.string (sE D)) w:=by
 obtain⟨_,⟨b,_⟩|⟨g,o,c,rfl,a⟩⟩:=h
 .omega
 exact Yh w 56 9 5 g o c D.length D rfl iG (by kernel_rfl) Pp a
theorem Ly (D):(sE D).size=D.length:=by show (sE D).data.toList.length=_;rw[Xc,yp]
theorem YN (v:Value) (D:List Int) (w:World) (h:sx w v D) (hD:nt D) (aa:Nat) (ab:16*aa+16<=D.length) (hl:D.length<=1000000):
 Calls prog 123 #[v,aa] w fun e w'=>e=.returned (.agg #[.string (rdE D aa).1,.int .i64 (rdE D aa).2])/\Below w w w':=by
 obtain⟨F,u⟩:=zD ((rdE D aa).1);obtain⟨f,A⟩:=zD ((rdE D aa).2);rw[u.o,A.o];obtain⟨N,C⟩:=zD D.length;obtain⟨g,o,B,rfl,t⟩:∃g o B,v=.slice (some ⟨g,o,none⟩) N B/\∀(j:Nat) (x:Value),(u8s D)[j]?=some x->w.cell? ⟨g,o+j,none⟩=some x:=by
  obtain⟨_,⟨Y,_⟩|⟨g,o,H,T,t⟩⟩:=h.1
  .omega
  .exact⟨g,o,H,by rw[<-C.o];exact T,t⟩
 have L:N<=B:=h.2 _ _ _ rfl;rw[C.o]at ab hl;obtain⟨c,n⟩:∃b,16*aa=b:=⟨_,rfl⟩;obtain⟨a,z⟩:∃b,c+14=b:=⟨_,rfl⟩;have U:IntKind.i64.wrap (16*(aa:Int))=(c:Int):=by rw[zQ _ (by omega)];omega
 have w5:IntKind.i64.wrap ((c:Int)+14)=(a:Int):=by rw[zQ _ (by omega)];omega
 have y:((D.drop c).take 14).length=14:=by rw[zj,yB,C.o];omega
 have p:∀W:World,Below w w W->vQ W (g,o+c,(a-c),(B-c)) ((D.drop c).take 14):=fun W P=>by
  refine⟨by rw[uo,uq],zu ⟨g,o+c,B-c,by rw[y];congr 1;omega,fun j x E=>?_⟩⟩;have R:j<14:=by have:=(zJ.1 E).1;rw[uo,y]at this;exact this
  rw[oV,mL,zI,ze R,yw]at E;have i:g<w.heap.size:=zG (t _ _ E);rw[P.cell i,yC];exact t _ _ E
 obtain⟨S,J⟩:=zD (sE ((D.drop c).take 14));have l:Below w w (w.alloc (.cells #[.string {data:=#[]},()] 46)):=zB.alloc zL _;have K:=Kc (p _ l) (by rw[y];omega);rw[J.o]at K;have s:a<D.length:=by rw[C.o];omega
 have q:(u8s D)[a]?=some (.int .u8 f):=by rw[qg D a s,<-A.o];unfold rdE;show some (Value.int .u8 D[a])=some (.int .u8 (D.getD (16*aa+14) 0));rw[n,z,zi,zh s];rfl
 have m:=t a _ q;have i:g<w.heap.size:=zG m;have r:(w.alloc (.cells #[.string {data:=#[]},()] 46)).cell? (g,o+a)=some (.int .u8 f):=by rw[l.cell i];exact m
 have k:(w.alloc (.cells #[.string F,f] 46)).drew.cell? (g,o+a)=some (.int .u8 f):=by have d:Below w w (w.alloc (.cells #[.string F,f] 46)):=zB.alloc zL _;rw[d.drew.cell i];exact m
 have G:0<=f/\f<=255:=by have d:=qg D a s;rw[q]at d;injection d with d;injection d with _ d;rw[d];exact hD _ (zx _)
 obtain⟨X,Z⟩:=G;have V:IntKind.i64.wrap f=f:=zQ _ (by omega);have I:Hid (∀W:World,Calls prog 162 #[.string S,.string ⟨#[0]⟩] W fun e w'=>e=.returned (.string F)/\w'=W):=fun W=>by
  have d:=Any.strings_TrimRight_one Tryz.lays162 S 0 (by decide) W (by rw[<-J.o,Ly,y];omega);have O:(⟨(Lib.trimRightB S.data.toList 0).toArray⟩:ByteArray)=F:=by rw[<-u.o,<-J.o,<-n];rfl
  rw[O]at d;exact d
 have M:=za l;have Q:¬g=w.heap.size:=by omega
 clear h p t q m l y hD;go_enter func123,ntmps123;go_wp2;have kb:(a:Int)<(N:Int):=by omega
 refine vF ?_
 go_region_held_law (fun w'=>w'.cell? (g,o+a)=some (.int .u8 f)) (first|exact r|exact k|(go_keep;done)) (first|(go_at_call 162;refine (I.o _).mono ?_;rintro e w' ⟨rfl,rfl⟩))
 all_goals
  refine ul ?_;go_wp2
  go_returns
  exact⟨rfl,(zB.alloc zL _).drew⟩
end Go.Proofs.YtmanoiagchpelaaGreatDoor
namespace Go.Proofs.YtmanoiagchpelaaGreatDoor
open Go.Proofs.Tryz Go.RowKit
variable {D:List Int} {at_ gb gn go gy k n:Nat} {name:ByteArray} {outs:List En} {r:Int×Nat×Int} {v:Value} {w w0:World}
section
variable {P : Program} {o : Oper} {a : Act} {w : World} {K : Act->World->Prop} {Q : Exit->Act->World->Prop}
theorem NA {ops:Array Oper} {X:Prop} (m:o.guard=none) (f) (xs) (ats) (n:o.op=.call {callee:=.value (.func f),args:=xs,argTypes:=ats})
 (p:∀args w,(callFunc f args).run P w=.ok (.enter f args) w) (args) (l:#[]++xs.map a.eval++#[]=args) (R:Value->World->Prop)
 (q:Calls P f args w fun e w'=>∃v,e=.returned v/\R v w') (h:∀v w',R v w'->K (a.put o.dst v) w'):if Region.wanted o (yielded ops a.tmps)=true then Oper.wp P o a w K Q else X:=by
 rw[ze (by simp[Region.wanted,m])];have e:execOp a.eval o=callFunc f (#[]++xs.map a.eval++#[]):=by obtain⟨d,j,k,pos,b,c⟩:=o;simp only at n;subst n;rfl
 unfold Oper.wp;rw[e,l,p];exact q.mono fun e w' ⟨v,g,i⟩=>by subst g;exact h v w' i
end
theorem GG (w:World) (o) (p) (h:p.block<w.heap.size):(w.alloc o).frozen? p=w.frozen? p:=((x9 w w).alloc zL o).frozen h
structure lC (w0:World) (gn gy go gb n:Nat) (v:Value) (outs:List En) (w:World):Prop where
 z:w0.heap.size<=gn/\w0.heap.size<=gy/\w0.heap.size<=go/\w0.heap.size<=gb
 n:w.heap[gn]?=some (.cells #[n] 3)
 y:w.heap[gy]?=some (.cells #[.func (.func 122) #[] #[(gn,()),(gy,()),(go,()),(gb,())]] 81)
 b:w.heap[gb]?=some (.cells #[v] 56)
 o:∃ov,w.heap[go]?=some (.cells #[ov] 42)/\w.ownsRow w0 46 2 ov outs.length (ents outs)
 hb:Below w0 w0 w
def Vr (w0:World) (gn gy go gb n:Nat) (v:Value) (D:List Int) (outs:List En) (at_:Nat) (e:Ending) (w':World):Prop:=
 e=.returned (.tuple #[])/\lC w0 gn gy go gb n v (outs++(ino n at_).map (rdE D)) w'
theorem lC.snoc {wR w4:World} {gg cap m:Nat} {ov:Value} {cs:Array Value} (h:lC w0 gn gy go gb n v outs w) (H:w.heap[go]?=some (.cells #[ov] 42)) (E:w.ownsRow w0 46 2 ov outs.length (ents outs))
 (F:Below w w wR) (x:En) (I:outs.length+1=m) (D:w4.ownsRow w0 46 2 (gg,0,m,cap) m (ents outs++[.string x.1,.int .i64 x.2]))
 (G:(wR.alloc (.cells cs 46)).grownBy w4 ov.ownBlock):lC w0 gn gy go gb n v (outs++[x]) (w4.setCell (go,0) (gg,0,m,cap)):=by
 have u:∀(i:Nat) (c:Array Value) (t:TypeId),w.heap[i]?=some (.cells c t)->t≠46->w4.heap[i]?=some (.cells c t):=fun i c t f k=>by have A:=(F.block i (xR f)).trans f;have s:=tA A (.cells cs 46);exact (G.block i (xR s) (fun e=>qb E f (yA k) e.symm)).trans s
 have l:∀(i:Nat) (c:Array Value) (t:TypeId),w.heap[i]?=some (.cells c t)->t≠46->t≠42->(w4.setCell (go,0) (gg,0,m,cap)).heap[i]?=some (.cells c t):=fun i c t f k o=>by rw[yE _ _ _ _ (tC f H o)];exact u i c t f k
 have d:=u go _ _ H (by decide);have B:w0.heap.size<=wR.heap.size:=zt h.hb.size F.size;have p:Below w0 w0 w4:=xB ((zf h.hb F).alloc B _) G (by simp only[si];omega) (fun q j=>by
  obtain⟨_,⟨r,_⟩|⟨g,cap,C,r,G,_⟩⟩:=E
  .rw[r]at j;simp[Value.ownBlock]at j
  .rw[r]at j;have:g=q:=(by simpa[Value.ownBlock]using j);rw[<-this];exact G)
 have a:w4.ownsRow w0 46 2 (gg,0,m,cap) (outs++[x]).length (ents (outs++[x])):=by rw[zm,Zw];show w4.ownsRow _ _ 2 _ (outs.length+1) (ents outs++[.string x.1,.int .i64 x.2]);rw[I];exact D
 refine⟨h.z,l _ _ _ h.n (by decide) (by decide),l _ _ _ h.y (by decide) (by decide),l _ _ _ h.b (by decide) (by decide),⟨_,?_,oW a fun b F=>?_⟩,p.setCell h.z.2.2.1 _⟩
 .rw[sL _ _ _ _ _ _ _ d,yh _ _ _ _ _ _ d];rfl
 .exact yE _ _ _ _ (fun e=>qb D d (by decide) (by rw[F,e]))
theorem lC.drew (h:lC w0 gn gy go gb n v outs w):lC w0 gn gy go gb n v outs w.drew:=⟨h.z,h.n,h.y,h.b,h.o,h.hb.drew⟩
theorem Oi (w0:World) (gn gy go gb n:Nat) (v:Value) (D:List Int) (al:sx w0 v D) (am:nt D) (hn:16*n=D.length) (ao:n<=32):∀(f at_:Nat) (outs:List En) (w:World),n<=at_+f->outs.length+(ino n at_).length<=32->at_<=1000->lC w0 gn gy go gb n v outs w ->
 Calls prog 122 #[at_,(gn,()),(gy,()),(go,()),(gb,())] w (Vr w0 gn gy go gb n v D outs at_):=by
 have HV:=za al;have HD:=za am;have M:=za hn;clear al am hn;obtain⟨i0,ad,S,af,A⟩:=xy Vo;have HI:=za ad;have a6:=za S;have a7:=za af;have aw:=za A;clear ad S af A;have C:∀(at_:Nat) (outs:List En) (w:World),n<=at_->lC w0 gn gy go gb n v outs w->Calls prog 122 #[at_,(gn,()),(gy,()),(go,()),(gb,())] w (Vr w0 gn gy go gb n v D outs at_):=by
  intro at_ outs w G h;have c1:w.cell? (gn,0)=some (.int .i64 (n:Int)):=zC h.n;have aP:¬(at_:Int)<(n:Int):=by omega
  have HE:Hid (Vr w0 gn gy go gb n v D outs at_ (.returned (.tuple #[])) w):=by refine⟨rfl,?_⟩;rw[i8 G,vY,yX];exact h
  clear h;go_enter func122,ntmps122;go_wp2
  go_returns
  exact HE.o
 have m:=za C;clear C;intro f
 induction f with
 | zero=>exact fun at_ outs w h1 _ _ E=>m.o at_ outs w (by omega) E
 | succ f ih=>
  intro at_ outs w h1 h2 h4 E;by_cases G:n<=at_
  .exact m.o at_ outs w G E
  have au:at_<n:=by omega
  have d:=fB au;obtain⟨L,HL⟩:=zD (ino n (2*at_+1));obtain⟨R,HR⟩:=zD (ino n (2*at_+2));rw[HL.o,HR.o]at d;obtain⟨a1,r⟩:=zD (2*at_+1);obtain⟨a2,z⟩:=zD (2*at_+2);rw[r.o]at HL;rw[z.o]at HR;have B:(ino n at_).length=L.length+(R.length+1):=by rw[d];simp
  rw[B]at h2;have a3:=za d;have i1:=ih a1 outs w (by have:=r.o;omega) (by rw[HL.o];omega) (by have:=r.o;omega) E;have I1:=za i1;have I2:Hid (∀(V:List En) (w:World),V.length=outs.length+L.length+1->lC w0 gn gy go gb n v V w->Calls prog 122 #[a2,(gn,()),(gy,()),(go,()),(gb,())] w (Vr w0 gn gy go gb n v D V a2)):=fun V w ho hw=>ih a2 V w (by have:=z.o;omega) (by rw[HR.o];omega) (by have:=z.o;omega) hw;have c1:w.cell? (gn,0)=some (.int .i64 (n:Int)):=zC E.n;have c2:w.cell? (gy,0)=some (.func (.func 122) #[] #[(gn,()),(gy,()),(go,()),(gb,())]):=zC E.y;have w1:=zW (2*(at_:Int)) (by omega);have q:IntKind.i64.wrap (2*(at_:Int)+1)=(a1:Int):=by rw[zQ _ (by omega)];have:=r.o;omega
  have w3:IntKind.i64.wrap (2*(at_:Int)+2)=(a2:Int):=by rw[zQ _ (by omega)];have:=z.o;omega
  have aG:(at_:Int)<(n:Int):=by omega
  clear ih i1 h1 h4 E d B;go_enter func122,ntmps122;go_wp2_with fail
  refine I1.out.mono ?_;rintro e i ⟨rfl,x⟩;rw[HL.o]at x;obtain⟨o1,H⟩:=zD (outs++L.map (rdE D));rw[H.o]at x;have P:o1.length=outs.length+L.length:=by rw[<-H.o];simp
  have ax:=za P;obtain⟨M1,J⟩:=zD o1.length;have aH:M1<=31:=by have:=J.o;omega
  clear P;obtain⟨ov,g,s⟩:=x.o;have k:=s;rw[J.o]at k;have ag:=za k;clear k;obtain⟨x1,Z⟩:=zD ((rdE D at_).1);obtain⟨N,K⟩:=zD ((rdE D at_).2);have l:=YN v D i.drew (HV.o.below x.hb.drew) HD.o at_ (by have:=M.o;omega) (by have:=M.o;omega);rw[Z.o,K.o]at l;have aa:Hid (Calls prog 123 #[v,at_] i.drew fun e w'=>∃u,e=.returned u/\u=.agg #[.string x1,N]/\Below i.drew.heap.size i.drew w'):=l.mono fun e w' ⟨h1,h2⟩=>⟨_,h1,rfl,h2⟩;have k0:i.cell? (go,0)=some ov:=zC g;have f0:i.frozen? (go,0)=false:=zF g;have kb:i.cell? (gb,0)=some v:=zC x.b;have F:go<i.heap.size:=xR g;have az:gb<i.heap.size:=xR x.b;have HA:=za x;have av:=za g;have aq:=za s;have a5:w0.heap.size<=i.heap.size:=x.hb.size;have NE:=za (qb s g (by decide));clear x g s l c1 c2;go_wp2
  go_region_law (first
   | (refine NA ?_ 123 #[.tmp 15,.tmp 16] #[56,3] ?_ (fun _ _=>by kernel_rfl) #[v,at_] ?_ _ aa.o ?_;(rfl);(rfl);(kernel_rfl);rintro _ q ⟨rfl,c⟩;have k2:q.cell? (go,0)=some ov:=(c.cell (p:=⟨go,0,none⟩) F).trans k0;have f2:q.frozen? (go,0)=false:=(c.frozen (p:=⟨go,0,none⟩) F).trans f0;have b2:q.cell? (gb,0)=some v:=(c.cell (p:=⟨gb,0,none⟩) az).trans kb;have kz:go<q.heap.size:=zo F c.size;have kn:¬go=q.heap.size:=nS kz;have U:Hid (q.ownsRow w0 46 2 ov M1 (ents o1)):=tB (w:=i.drew) ag.o c;have A:w0.heap.size<=q.heap.size:=zt a5 c.size;have W:=za c;clear c)
   | (
    refine step_append_lies _ (by rfl) _ _ _ (by rfl) w0.heap.size 46 i0 _ 2 24 oR HI.o a6.o a7.o aw.o rfl (by omega) ov M1 (ents o1) (by rfl) (U.o.alloc _)
     ⟨q.heap.size,0,none⟩ 1 1 [.string x1,.int .i64 N] (by rfl) (by rfl) (World.news_of_block (cs:=#[.string x1,.int .i64 N]) (t:=46) (fr:=(0,0)) (zT q _)) (by simp[Value.oneCell'])
     (by omega) (by unfold maxLen;omega) (by omega) (by simp only[si];omega) (q.heap.size+1) (by simp only[si]) ?_;intro gg ab w4 j a T Q
    have k4:w4.cell? (go,0)=some ov:=(by rw[a.cell_far _ (by simp only[si];omega) (yA NE.out),wN _ _ _ kz];exact k2);have f4:w4.frozen? (go,0)=false:=(by rw[a.frozen_far _ (by simp only[si];omega) (yA NE.out),GG _ _ _ kz];exact f2);have X:=za j;have Y:=za a;clear j a T))
  all_goals
   have hS:=HA.o.drew.snoc (w:=i.drew) av.o aq.o W.o (x1,N) (by rw[J.o]) X.o Y.o;have a4:(x1,N)=rdE D at_:=(by rw[<-Z.o,<-K.o]);rw[a4]at hS;obtain⟨w5,ae⟩:=zD (w4.setCell (go,0) (gg,0,(M1+1),ab));rw[ae.o]at hS ⊢;have c5:w5.cell? (gy,0)=some (.func (.func 122) #[] #[(gn,()),(gy,()),(go,()),(gb,())]):=zC hS.y;have I:=za (I2.out _ _ (by rw[zm,ax.o];rfl) hS);clear hS k4 f4 ae X Y Q k2 f2 b2 kz kn U A W;go_wp2_with fail
   refine I.o.mono ?_;rintro e w6 ⟨rfl,h6⟩;have O:Hid (Vr w0 gn gy go gb n v D outs at_ (.returned (.tuple #[])) w6):=(by refine⟨rfl,?_⟩;rw[HR.o,<-H.o]at h6;rw[a3.o,yy,yF];simpa using h6);clear h6;go_wp2
   go_returns
   exact O.o
def ListOk (D:List Int) (w:World) (e:Ending) (w':World):Prop:=∃v,e=.returned (.tuple #[v,()])/\w'.ownsRow w 46 2 v (outD D).length (ents (outD D))/\Below w w w'
def Xf (w:World) (e:Ending) (w':World):Prop:=e=.returned (.tuple #[.slice none 0 0,(3:Int)])/\Below w w w'
theorem l9 (h:vQ w v D) (N) (e:D.length=N):∃p cp,v=.slice p N cp:=by
 subst e;obtain⟨_,⟨d,b,c,rfl⟩|⟨g,o,a,rfl,_⟩⟩:=h
 .exact⟨b,c,by rw[d]⟩
 .exact⟨_,a,rfl⟩
theorem jA {base:Nat} {e:TypeId} {size:Nat} {xs:List Value} (h:w.ownsRow base e size v n xs):kO v:=by
 intro p j c a;obtain⟨_,⟨rfl,k⟩|⟨g,f,b,rfl,_,_,l,_⟩⟩:=h
 .injection a with _ i d;omega
 .injection a with _ i d;omega
theorem Oh (v) (D) (w) (h:sx w v D) (j:D.length<=1000000) (i:D.length%16≠0\/512<D.length):
 Calls prog 67 #[v] w (Xf w):=by
 obtain⟨N,d⟩:=zD D.length;obtain⟨p,g,rfl⟩:=l9 h.1 N d.o;rw[d.o]at j i;have b:Hid (Below w w (w.alloc (.cells #[(p,N,g)] 56))):=zB.alloc zL _;clear h;obtain⟨r,c⟩:=zD (N%16);have e:(N:Int).tmod 16=r:=by rw[<-c.o];rfl
 by_cases a:r=0
 .subst a;have f:512<(N:Int):=by have:=c.o;omega
  go_enter func67,ntmps67
  go_wp2
  go_returns
  exact⟨rfl,b.o⟩
 .have f:¬(r:Int)=0:=by omega
  go_enter func67,ntmps67
  go_wp2
  go_returns
  exact⟨rfl,b.o⟩
def Z8 (D:List Int) (w:World) (e:Ending) (w':World):Prop:=(sU D=true/\ListOk D w e w')\/(sU D=false/\Xf w e w')
theorem Og (v:Value) (D:List Int) (w:World) (h:sx w v D) (hD:nt D) (hm:D.length%16=0) (aa:D.length<=512):
 Calls prog 67 #[v] w (Z8 D w):=by
 obtain⟨N,F⟩:=zD D.length;obtain⟨p,K,rfl⟩:=l9 h.1 N F.o;rw[F.o]at hm aa;obtain⟨n,Hn⟩:=zD (N / 16);have ap:(N:Int).tmod 16=0:=by show ((N%16:Nat):Int)=0;rw[hm];rfl
 have an:(N:Int).tdiv 16=(n:Int):=by rw[<-Hn.o];rfl
 have h5:¬(512:Int)<(N:Int):=by omega
 have g:n<=32:=by have:=Hn.o;omega
 have u:16*n=D.length:=by rw[F.o];have:=Hn.o;omega
 obtain⟨x,i⟩:=zD ((((w.alloc (.cells #[(p,N,K)] 56)).alloc (.cells #[n] 3)).alloc (.cells #[.slice none 0 0] 42)).alloc (.cells #[.func (.func 122) #[] #[.pointer (some ⟨w.heap.size+1,0,none⟩),.pointer (some ⟨w.heap.size+1+1+1,0,none⟩),.pointer (some ⟨w.heap.size+1+1,0,none⟩),(w.heap.size,())]] 81));have Z:Below w w x:=by rw[<-i.o];exact (((zB.alloc zL _).alloc (by simp only[si];omega) _).alloc (by simp only[si];omega) _).alloc (by simp only[si];omega) _
 have P:x.heap[w.heap.size]?=some (.cells #[(p,N,K)] 56):=by rw[<-i.o,oB (by simp only[si];omega),oB (by simp only[si];omega),oB (by simp only[si];omega),jR rfl]
 have S:x.heap[w.heap.size+1]?=some (.cells #[n] 3):=by rw[<-i.o,oB (by simp only[si];omega),oB (by simp only[si];omega),jR (by simp only[si])]
 have Q:x.heap[w.heap.size+1+1]?=some (.cells #[.slice none 0 0] 42):=by rw[<-i.o,oB (by simp only[si];omega),jR (by simp only[si])]
 have M:x.heap[w.heap.size+1+1+1]?=some (.cells #[.func (.func 122) #[] #[.pointer (some ⟨w.heap.size+1,0,none⟩),.pointer (some ⟨w.heap.size+1+1+1,0,none⟩),.pointer (some ⟨w.heap.size+1+1,0,none⟩),(w.heap.size,())]] 81):=by rw[<-i.o,jR (by simp only[si])]
 have U:lC w (w.heap.size+1) (w.heap.size+1+1+1) (w.heap.size+1+1) w n (p,N,K) [] x:=
  ⟨⟨by omega,by omega,by omega,zL⟩,S,M,P,⟨_,Q,⟨rfl,zr ⟨rfl,rfl⟩⟩⟩,Z⟩
 have f:=Oi w (w.heap.size+1) (w.heap.size+1+1+1) (w.heap.size+1+1) w n (p,N,K) D h hD u g n 0 [] x (by omega) (by rw[(ZD g).2.1];simpa using g) (by omega) U;rw[show ((0:Nat):Int)=0 from rfl]at f;have C:=za f;have k:[]++(ino n 0).map (rdE D)=outD D:=by unfold outD;rw[F.o,Hn.o,yU]
 have R:=za k;have O:Hid ((outD D).length=n):=by show _=_;rw[<-k,yU,yp,(ZD g).2.1]
 have ah:=za h;have HH:Hid (D.length%16=0/\D.length<=512/\D.length=16*n):=by rw[F.o];exact⟨hm,aa,by rw[<-F.o,u]⟩
 clear h hm aa Z P S Q M U f k;go_enter func67,ntmps67;go_wp2_with fail
 rw[i.o];refine C.o.mono ?_;rintro e w2 ⟨rfl,I⟩;rw[R.o]at I;obtain⟨l,m,j⟩:=I.o;have k0:w2.cell? (w.heap.size+1+1,0)=some l:=zC m;have E:=I.hb;have G:=I.b;have z:=za m;have X:=za G;have ai:=za j;have V:=za E;have s:jc w2 l (outD D):=⟨wh.of_owns j,jA j⟩;by_cases J:sf (outD D)=0
 .have HL:=za (lay_ok l (outD D) w2 s J);have HR:=za J;clear I m G j E s J;go_wp2_with fail
  refine HL.o.mono ?_;rintro e t ⟨c,rfl,hc,a⟩;have y:(layD (outD D)).length=D.length:=by rw[ZV HR.o,O.o,HH.o.2.2]
  have kb:t.cell? (w.heap.size,0)=some (.slice p N K):=(a.cell (p:=⟨w.heap.size,0,none⟩) (xR X.o)).trans (zC X.o);have ko:t.cell? (w.heap.size+1+1,0)=some l:=(a.cell (p:=⟨w.heap.size+1+1,0,none⟩) (xR z.o)).trans (zC z.o);have H:=zf V.o a;have A:=Gm c (p,N,K) (layD (outD D)) D t hc.1 (ah.o.below H).1 y (by rw[y,F.o];omega);obtain⟨b,Hb⟩:=zD (lN (layD (outD D)) D);rw[Hb.o]at A;have ae:=za A;have B:=za H;have af:Hid (t.ownsRow w 46 2 l (outD D).length (ents (outD D))):=tB ai.o a;have W:w.heap.size+1+1<t.heap.size:=zo (xR z.o) a.size;clear hc a y H A;go_wp2_with fail
  refine ae.o.mono ?_;rintro e L ⟨rfl,q⟩;have k4:L.cell? (w.heap.size+1+1,0)=some l:=(q.cell (p:=⟨w.heap.size+1+1,0,none⟩) W).trans ko;have Y:Hid (Below w w L):=zf B.o q;have ak:Hid (L.ownsRow w 46 2 l (outD D).length (ents (outD D))):=tB af.o q;clear q;cases b with
  | true=>
   have d:Hid (Z8 D w (.returned (.tuple #[l,()])) L):=(by refine zr ⟨(nB D).2 ⟨HH.o.1,HH.o.2.1,HR.o,?_⟩,⟨l,rfl,ak.o,Y.o⟩⟩;have:=Hb.o;unfold lN at this;simpa using this);go_wp2
   go_returns
   exact d.o
  | false=>
   have d:Hid (Z8 D w (.returned (.tuple #[.slice none 0 0,(3:Int)])) L):=by
    refine zu ⟨?_,⟨rfl,Y.o⟩⟩;cases hq:sU D with
    | false=>rfl
    | true=>
     have h1:=((nB D).1 hq).2.2.2;have:=Hb.o;unfold lN at this;simp[h1]at this
   go_wp2
   go_returns
   exact d.o
 .obtain⟨r,Hr⟩:=zD (sf (outD D));have T:=J;rw[Hr.o]at T;have HL:=za (Sc l (outD D) w2 s (by rw[O.o];omega) r Hr.o T);have HR:=za J;clear I m G j E s J;go_wp2_with fail
  refine HL.o.mono ?_;rintro e t ⟨rfl,a⟩;have B:Hid (Below w w t):=zf V.o a;have d:Hid (Z8 D w (.returned (.tuple #[.slice none 0 0,(3:Int)])) t):=by
   refine zu ⟨?_,⟨rfl,B.o⟩⟩;cases hq:sU D with
   | false=>rfl
   | true=>exact zY ((nB D).1 hq).2.2.1 HR.o
  clear a;go_wp2
  go_returns
  exact d.o
theorem Vz (v:Value) (D:List Int) (w:World) (h:sx w v D) (f:nt D) (g:D.length<=1000000):Calls prog 67 #[v] w (Z8 D w):=by
 by_cases a:D.length%16=0/\D.length<=512
 .exact Og v D w h f a.1 a.2
 .refine (Oh v D w h g (by omega)).mono fun e d c=>zu ⟨?_,c⟩;cases b:sU D with
  | false=>rfl
  | true=>exact zY ⟨((nB D).1 b).1,((nB D).1 b).2.1⟩ a
def qp (D:List Int) (n:Nat) (name:ByteArray):Nat->Nat->Nat->Int×Nat×Int
 | 0,_,k=>(0,k,4)
 | f+1,at_,k=>if at_<n then (if cmpB name (rdE D at_).1=0 then ((rdE D at_).2,k+1,0) else if cmpB name (rdE D at_).1<0 then qp D n name f (2*at_+1) (k+1) else qp D n name f (2*at_+2) (k+1)) else (0,k,4)
def vB (D:List Int) (name:ByteArray):Int×Nat×Int:=qp D (D.length / 16) name 7 0 0
def Xh (r:Int×Nat×Int) (w:World) (e:Ending) (w':World):Prop:=e=.returned (.tuple #[r.1,.int .i64 (r.2.1),r.2.2])/\Below w w w'
theorem MG (a b):cmpB a b = -1\/cmpB a b=0\/cmpB a b=1:=by
 unfold cmpB;split
 .exact zr rfl
 .split
  .exact zu (zr rfl)
  .exact zu (zu rfl)
def pL (D:List Int) (n:Nat) (name:ByteArray) (r:Int×Nat×Int) (at_ k:Nat):Prop:=qp D n name (7-k) at_ k=r/\2 ^ k<=at_+1/\k<=7
theorem pL.stop (h:pL D n name r at_ k) (b:n<=at_):r=(0,k,4):=by
 obtain⟨a,_,_⟩:=h;rw[<-a];cases 7-k with
 | zero=>rfl
 | succ f=>rw[qp,zb (by omega)]
theorem pL.small (h:pL D n name r at_ k) (d:at_<n) (e:n<=32):k<=5:=by
 obtain⟨_,b,c⟩:=h;rcases sk 5 k with a|a
 .have:2 ^ 6<=2 ^ k:=Nat.pow_le_pow_right (by omega) a;omega
 .exact a
theorem pL.step (h:pL D n name r at_ k) (c:at_<n) (d:n<=32):r=if cmpB name (rdE D at_).1=0 then ((rdE D at_).2,k+1,0) else if cmpB name (rdE D at_).1<0 then qp D n name (7-(k+1)) (2*at_+1) (k+1) else qp D n name (7-(k+1)) (2*at_+2) (k+1):=by
 have b:=h.small c d;obtain⟨a,_,_⟩:=h;have e:7-k=(7-(k+1))+1:=by omega
 rw[e,qp,ze c]at a;exact a.symm
theorem Qy (v:Value) (D:List Int) (name:ByteArray) (w:World) (h:sx w v D) (hD:nt D) (aa:sU D=true):
 Calls prog 125 #[v,.string name] w (Xh (vB D name) w):=by
 obtain⟨hm,B,_,_⟩:=(nB D).1 aa;obtain⟨N,R⟩:=zD D.length;obtain⟨p,cp,rfl⟩:=l9 h.1 N R.o;have X:=za (Vz (p,N,cp) D w h hD (by omega));obtain⟨n,Hn⟩:=zD (N / 16);rw[R.o]at hm B;have m:N=16*n:=by have:=Hn.o;omega
 have q:n<=32:=by omega
 have y:=za m;obtain⟨r,Hr⟩:=zD (vB D name);rw[Hr.o];have ac:Hid (pL D n name r 0 0):=by refine⟨?_,by omega,by omega⟩;have:=Hr.o;unfold vB at this;rw[R.o,Hn.o]at this;exact this
 have ad:=za h;have HD:=za hD;have ab:=za aa;clear h hD aa hm m;go_enter func125,ntmps125;go_wp2_with fail
 refine X.o.mono ?_;intro e w1 P;obtain⟨_,ov,rfl,_,U⟩|⟨s,_⟩:=P;case inr=>rw[ab.o]at s;cases s
 have ae:=za U;clear U;go_wp2;go_loopw [5,9] (fun s5 Y wr=>∃a k:Nat,a<=1000/\k<=7/\Y=.int .i64 (a:Int)/\s5=.int .i64 (k:Int)/\Hid (pL D n name r a k)/\Below w w wr) (fun s5 Y _=>n-(intOf Y).toNat);case atStart=>exact⟨0,0,by omega,by omega,rfl,rfl,ac,ae.o⟩
 case round=>
  obtain⟨a,k,ax,hk,rfl,rfl,j,HB⟩:=hrel;obtain⟨u,am⟩:∃b,16*a=b:=⟨_,rfl⟩;have w4:IntKind.i64.wrap (16*(a:Int))=(u:Int):=by rw[zQ _ (by omega)];omega
  by_cases F:a<n
  .have E:(u:Int)<(N:Int):=(by have:=y.o;omega);obtain⟨z,l⟩:=zD (k+1);obtain⟨K,f⟩:=zD (2*a+1);obtain⟨S,g⟩:=zD (2*a+2);have w0:IntKind.i64.wrap ((k:Int)+1)=(z:Int):=(by rw[zQ _ (by omega)];have:=l.o;omega);have w1:IntKind.i64.wrap (2*(a:Int))=2*(a:Int):=zQ _ (by omega);have w2:IntKind.i64.wrap (2*(a:Int)+1)=(K:Int):=(by rw[zQ _ (by omega)];have:=f.o;omega);have w3:IntKind.i64.wrap (2*(a:Int)+2)=(S:Int):=(by rw[zQ _ (by omega)];have:=g.o;omega);obtain⟨T,L⟩:=zD ((rdE D a).1);obtain⟨x2,C⟩:=zD ((rdE D a).2);have i:=YN (p,N,cp) D wr (ad.o.below HB) HD.o a (by rw[R.o];have:=y.o;omega) (by rw[R.o];omega);rw[L.o,C.o]at i;have O:=za i;obtain⟨c,Hc⟩:=zD (cmpB name T);have G:Hid (∀W:World,Calls prog 167 #[.string name,.string T] W fun e w'=>e=.returned c/\W=w'):=fun W=>(by rw[<-Hc.o];exact IV name T W);have t:=j.o.step F q;rw[L.o,C.o,Hc.o,l.o,f.o,g.o]at t;have av:=j.o.small F q;have A:=za t;have M:2 ^ z<=K+1:=(by have h1:=j.o.2.1;rw[<-l.o,Nat.pow_succ];have:=f.o;omega);have Z:=za M;have d:z<=7:=(by have:=l.o;omega);have V:K<=1000:=(by have:=f.o;omega);have ah:S<=1000:=(by have:=g.o;omega);have ay:n-K<n-a:=(by have:=f.o;omega);have ar:n-S<n-a:=(by have:=g.o;omega);have Q:Hid (2 ^ z<=S+1):=(by show _<=_;have:=f.o;have:=g.o;omega);have H:=MG name T;rw[Hc.o]at H;clear i t M;go_wp2_with fail
   refine O.o.mono ?_;rintro e w2 ⟨rfl,J⟩;have I:Hid (Below w w w2):=zf HB J;have x:Hid (Below w w (w2.alloc (.cells #[.string T,x2] 46))):=I.o.alloc I.o.size _;clear J;go_wp2_with fail
   refine (G.o _).mono ?_;rintro e w' ⟨rfl,rfl⟩;rcases H with rfl|rfl|rfl
   .go_wp2;go_roundw;case rel=>exact⟨K,z,V,d,rfl,rfl,⟨by rw[A.o];rfl,Z.o,d⟩,x.o⟩
    case measure=>simp[intOf];omega
   .have hr:r=(x2,z,0):=(by rw[A.o];rfl);subst hr;go_wp2
    go_returns
    exact⟨rfl,x.o⟩
   .go_wp2;go_roundw;case rel=>exact⟨S,z,ah,d,rfl,rfl,⟨by rw[A.o];rfl,Q.o,d⟩,x.o⟩
    case measure=>simp[intOf];omega
  .have E:¬(u:Int)<(N:Int):=(by have:=y.o;omega);have hr:=j.o.stop (by omega);subst hr;go_wp2
   go_returns
   exact⟨rfl,HB⟩
theorem entZ: ∀w,(zeroValue 46).run prog w=.ok (.agg #[.string {data:=#[]},()]) w:=fun _=>by kernel_rfl
section
variable {P : Program}
theorem Gg (w) (t e) (l:P.underlying t=some (.slice e)) (j:∀w,(zeroValue e).run P w=.ok (.agg #[.string {data:=#[]},()]) w)
 (g o n c) (cur) (ct) (q:0<n) (p:w.heap[g]?=some (.cells cur ct)) (k:o+n*2<=cur.size):
 ∃zs,zs.length=n*2/\∀ty,(Builtin.clear_ #[t] ty #[.slice (some ⟨g,o,none⟩) n c]).run P w=.ok (.tuple #[]) (w.setRow g (cur.toList.take o++zs++cur.toList.drop (o+zs.length)).toArray):=by
 have a:((Builtin.zeroCells #[.string {data:=#[]},()] n).toList).length=n*2:=by rw[yv,qG];rfl
 have d:∀v∈(Builtin.zeroCells #[.string {data:=#[]},()] n).toList,v.oneCell'=true:=by intro v j;simp only[Builtin.zeroCells,Array.toList_map,zU]at j;obtain⟨i,_,rfl⟩:=j;have f:i%2<2:=sr _ (by omega);show (#[Value.string {data:=#[]},Value.int .i64 0][i%2]!).oneCell'=true;rcases (by omega:i%2=0\/i%2=1) with h|h<;>rw[h]<;>rfl
 refine⟨_,a,fun ty=>?_⟩;have b:=vG P g o ct (Builtin.zeroCells #[.string {data:=#[]},()] n).toList 0 cur w p (by rw[a];omega) d;simp only[vC]at b;obtain⟨m,rfl⟩:∃m,n=m+1:=⟨n-1,by omega⟩;simp[Builtin.clear_,vE l,j,Value.cells,b]
end
theorem Jz {B:Nat} {a:World} (h:Below B a w) {g:Nat} (c:B<=g) (cs:Array Value):Below B a (w.setRow g cs):=
 ⟨h.os,h.tape,h.output,by have:=h.size;simp only[World.setRow,nW];exact this,fun k b=>by rw[xh _ _ _ _ (by omega)];exact h.block k b⟩
theorem Kb (aa:Nat) (v:Value) (l:List En) (w:World) (ab:w.ownsRow aa 46 2 v l.length (ents l)) (i:Nat) (hi:i<l.length) (hl:l.length<=1000000) (j:Nat) (hj:i+1=j) (ad:aa<=w.heap.size):
 Calls prog 171 #[v,i,j] w fun e w'=>∃v',e=.returned v'/\w'.ownsRow aa 46 2 v' (l.eraseIdx i).length (ents (l.eraseIdx i))/\Below aa w w':=by
 have _:=ad;obtain⟨n,M⟩:=zA l.length;rw[<-M.o]at hi hl ab;obtain⟨m,r⟩:∃m,Hid (m+1=n):=⟨n-1,by show _=_;omega⟩;obtain⟨an,⟨_,h0⟩|⟨g,c,a,rfl,T,Z,hc,W,hs,Y⟩⟩:=ab
 .omega
 obtain⟨i0,av,ao,ax,au⟩:=xy Vo;have k:(l.eraseIdx i).length=m:=by rw[List.length_eraseIdx,ze (by rw[<-M.o];exact hi),<-M.o];have:=r.o;omega
 have J:ents (l.eraseIdx i)=ents (l.take i)++ents (l.drop j):=by rw[List.eraseIdx_eq_take_drop_succ,Zw,hj]
 have N:(ents (l.take i)).length=i*2:=by rw[l3,zj,<-M.o];congr 1;omega
 have d:(ents (l.drop j)).length=(n-j)*2:=by rw[l3,yB,<-M.o]
 have h:∀(q:Nat) (u:Value),(ents (l.drop j))[q]?=some u->w.drew.cell? (g,j*2+q)=some u:=fun q u hq=>by
  have ae:=(zJ.1 hq).1;rw[d]at ae;show w.cell? (g,j*2+q)=some u;rw[zC Z];have e:ents l=ents (l.take j)++ents (l.drop j):=by rw[<-Zw,xC]
  have e2:(ents (l.take j)).length=j*2:=by rw[l3,zj,<-M.o];congr 1;omega
  have D:(ents l)[j*2+q]?=some u:=by rw[e,zy (by omega),e2,show j*2+q-j*2=q by omega];exact hq
  rw[<-Y,zI,ze (by omega)]at D;simpa using D
 have B:∀(b o q:Nat),(⟨b,o,none⟩:Addr).add q=⟨b,o+q,none⟩:=fun b o q=>by unfold Addr.add;split<;>simp_all
 have ap:i+(n-j)=m:=by have:=r.o;omega
 obtain⟨t,I⟩:=zD ((a.toList.take (i*2)++ents (l.drop j)++a.toList.drop (i*2+(n-j)*2)).toArray);have F:(loadCellsFrom ⟨g,j*2,none⟩ 0 ((n-j)*2) #[]).run prog w.drew=.ok (ents (l.drop j)).toArray w.drew:=by have:=sp (P:=prog) (w:=w.drew) ⟨g,j*2,none⟩ (ents (l.drop j)) (fun q u hq=>by rw[B];exact h q u hq);rw[d]at this;exact this
 have f:(storeCells ⟨g,i*2,none⟩ (ents (l.drop j))).run prog w.drew=.ok () (w.drew.setRow g t):=by have:=vG (P:=prog) g (i*2) 46 (ents (l.drop j)) 0 a w.drew Z (by rw[d,hs];omega) (fR _);rw[d,vC,I.o]at this;exact this
 have p:t.size=c*2:=by rw[<-I.o];simp only[uz,zm,zj,yB,d,yv,hs];omega
 have z:t.toList.take (m*2)=ents (l.eraseIdx i):=by
  rw[<-I.o,J];have e1:(a.toList.take (i*2))=ents (l.take i):=by
   have e:ents l=ents (l.take i)++ents (l.drop i):=(by rw[<-Zw,xC]);have D:=zV (List.take (i*2)) Y;rw[vj,e,yT (by omega),zv (l:=ents (l.take i)) (by omega)]at D;rw[<-D]
   congr 1
   omega
  rw[e1];have h2:(ents (l.take i)++ents (l.drop j)).length=m*2:=by rw[zm,N,d];omega
  rw[yT (by omega),zv (by omega)]
 have x:(w.drew.setRow g t).heap[g]?=some (.cells t 46):=yh _ _ _ _ _ _ Z;obtain⟨w2,R⟩:=zD (w.drew.setRow g t);rw[R.o]at f x;obtain⟨zs,Q,C⟩:=Gg (P:=prog) w2 42 46 oR entZ g (m*2) (n-m) (c-m) t 46 (by have:=r.o;omega) x (by rw[p];have:=r.o;omega);obtain⟨w3,L⟩:=zD (w2.setRow g (t.toList.take (m*2)++zs++t.toList.drop (m*2+zs.length)).toArray);rw[L.o]at C;have S:Hid (w3.ownsRow aa 46 2 (g,0,m,c) (l.eraseIdx i).length (ents (l.eraseIdx i))/\Below aa w w3):=by
  constructor
  .rw[k];refine⟨by rw[l3,k],zu ⟨g,c,_,rfl,T,by rw[<-L.o];exact yh _ _ _ _ _ _ x,by have:=r.o;omega,W,?_,?_⟩⟩
   .simp only[uz,zm,zj,yB,Q,yv,p];have:=r.o;omega
   .rw[z];have h2:(ents (l.eraseIdx i)).length=m*2:=(by rw[l3,k]);rw[zP,yT (by omega),zv (by omega)]
  .rw[<-L.o,<-R.o];exact Jz (Jz zB.drew T _) T _
 have k1:¬(i:Int)=(j:Int):=by omega
 have k2:(i:Int)<=(j:Int):=by omega
 have k3:(j:Int)<=(n:Int):=by omega
 have k4:(n:Int)<=(c:Int):=by omega
 have k5:(i:Int)<=(c:Int):=by omega
 have k6:(m:Int)<=(n:Int):=by have:=r.o;omega
 have k7:¬c=m:=by have:=r.o;omega
 have k8:¬n=i:=by omega
 have k9:¬c=i:=by omega
 have V:=za Z;have af:=za J;have HT:=za Y;have X:=za hs;have s:=za N;have U:=za k;clear h B k J N d Y hs p z x Q;by_cases ac:c=j
 .have ag:n=j:=by omega
  have K:i=m:=by have:=r.o;omega
  obtain⟨y,A,H⟩:=Gg (P:=prog) w.drew 42 46 oR entZ g (i*2) (n-i) (j-i) a 46 (by omega) V.o (by rw[X.o];omega);obtain⟨w4,G⟩:=zD (w.drew.setRow g (a.toList.take (i*2)++y++a.toList.drop (i*2+y.length)).toArray);rw[G.o]at H;have E:Hid (w4.ownsRow aa 46 2 (g,0,i,j) (l.eraseIdx i).length (ents (l.eraseIdx i))/\Below aa w w4):=by
   have O:l.drop j=[]:=vN (by rw[<-M.o];omega);have e0:ents (l.eraseIdx i)=ents (l.take i):=(by rw[af.o,O];simp[ents]);have e1:a.toList.take (i*2)=ents (l.take i):=by
    have e:ents l=ents (l.take i)++ents (l.drop i):=(by rw[<-Zw,xC]);have D:=zV (List.take (i*2)) HT.o;rw[vj,e,yT (by rw[s.o];exact zL),zv (l:=ents (l.take i)) (by rw[s.o];exact zL)]at D;rw[<-D]
    congr 1
    omega
   constructor
   .rw[U.o];refine⟨by rw[l3,U.o],zu ⟨g,j,_,by rw[K],T,by rw[<-G.o];exact yh _ _ _ _ _ _ V.o,by have:=r.o;omega,by rw[<-ac];exact W,?_,?_⟩⟩
    .simp only[uz,zm,zj,yB,A,yv,X.o];omega
    .rw[e0,<-K];show ((a.toList.take (i*2)++y++a.toList.drop (i*2+y.length))).take (i*2)=_;rw[e1,zP,yT (by rw[s.o];exact zL),zv (by rw[s.o];exact zL)]
   .rw[<-G.o];exact Jz zB.drew T _
  have ah:n-j=0:=by omega
  clear F f C A ag K;go_enter func171,ntmps171;go_wp2
  go_still_tail 6,(by kernel_rfl)
  go_wp2_with fail
  go_ret;exact⟨_,rfl,E.o⟩
 .go_enter func171,ntmps171
  go_wp2
  go_still_tail 6,(by kernel_rfl)
  go_wp2;go_ret;exact⟨_,rfl,S.o⟩
