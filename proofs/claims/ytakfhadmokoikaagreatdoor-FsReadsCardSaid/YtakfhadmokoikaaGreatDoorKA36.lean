import Derived.Test.YtakfhadmokoikaaGreatDoorKA30
import Derived.Test.YtakfhadmokoikaaGreatDoorKA34
set_option maxHeartbeats 0
set_option linter.all false
set_option maxRecDepth 100000
namespace Go.Proofs.YtakfhadmokoikaaGreatDoor
open Go.Proofs.Tryz Go.RowKit
variable {B cn g gd gf gn gp gt n:Nat} {D:List Int} {E:List Nd} {F T:Nat->Prop} {K:Act->World->Prop} {P:Program} {Q:Exit->Act->World->Prop} {a:Addr} {c:Array Value} {done l pl:List (Int×Value)} {fp gv rv v:Value} {fr:Nat×Nat} {o:Oper} {s:Fs} {t:TypeId} {w w':World} {x:Tx} {y:Int×Value} {α:Type}
def dfF (w:World) (gt gp n:Nat) (v:Value) (D:List Int) (i:Nat) (u:Value) (W:World):Prop:=
 if i=2 then u=.pointer (some ⟨gt,196,none⟩) else if i=3 then u=.map (some gp) else if i=4 then u=.int .i64 (n:Int) else if i=5 then u=v else if i=6 then su W w.heap.size u D else u=.pointer (some ⟨gt,0,none⟩)
theorem R7 (j:Nat) (u:Value) (W W':World) (b:Below W W W') (h:dfF w gt gp n v D j u W):dfF w gt gp n v D j u W':=by
 unfold dfF at h ⊢;by_cases c:j=2
 .rw[ze c]at h ⊢;exact h
 rw[zb c]at h ⊢;clear c;by_cases c:j=3
 .rw[ze c]at h ⊢;exact h
 rw[zb c]at h ⊢;clear c;by_cases c:j=4
 .rw[ze c]at h ⊢;exact h
 rw[zb c]at h ⊢;clear c;by_cases c:j=5
 .rw[ze c]at h ⊢;exact h
 rw[zb c]at h ⊢;clear c;by_cases c:j=6
 .rw[ze c]at h ⊢;exact Zt h fun g _ _ a=>b.block g (xL a)
 rw[zb c]at h ⊢;exact h
theorem XA {w0:World} {F1:Nat->Prop} (hf:FsAt w0 gf s F1 a) (hb:Below w0 w0 w) (h:TxAt w w0 F gt (gf,()) x T)
 (n:Nat) (hn:n<s.k) (v:Value) (D:List Int) (hv:vC w v D) (hD:D.length=64) (ao:x.put.length<900):
 Calls prog 130 #[(gt,()),n,v] w
  (fun e w'=>e=.returned (.tuple #[])/\vS w0 F gt (gf,()) {x with put:=if eqB (secE s n) D=true then x.put else putZ x.put (n:Int) D} T w w'):=by
 obtain⟨rv,gn,cn,gd,Z,gv,E,pl,X⟩:=h.lies;obtain⟨c0,z,M,C,p,U,L,B⟩:=sZ X.row;have H:=Lib.hid h;have HL:=Lib.hid X;have am:=Lib.hid hb;have HV:=Lib.hid hv;have V:=Lib.hid (Kf (hf.below hb) n hn);have y:=Lib.hid (gu hf n hn);have a6:Hid (s.k<=256):=hf.k1;have aN:(n:Int)<1000:=by have:=hf.k1;omega
 have J:Hid (pl.length<900):=by show _;rw[X.secs.len];exact ao
 clear h X hf hb hv ao;obtain⟨S,HS⟩:=zD (secE s n);rw[HS.o]at V y ⊢;obtain⟨b,Hb⟩:=zD (eqB S D);rw[Hb.o];go_enter func130,ntmps130;go_wp2_with fail
 refine V.o.mono ?_;rintro e w1 ⟨v1,rfl,t⟩;have O:=Lib.hid t.below;have ak:=Lib.hid t.at;clear t;have G:=Lib.hid (Va v1 v S D w1 ak.o (xT.below HV.o O.o) (by rw[y.o,hD]) (by rw[y.o];omega));rw[Hb.o]at G;go_wp2_with fail
 refine G.o.mono ?_;rintro e W ⟨rfl,K⟩;have l:Hid (Below w w W):=Below.step O.o K;clear K;cases b with
 | true=>
  go_wp2
  go_end0
  exact⟨rfl,vS.same H.o l.o⟩
 | false=>
  have Q:=Lib.hid (HL.o.below l.o);have an:=Lib.hid (H.o.below l.o);have ap:Hid (vC W v D):=xT.below HV.o l.o;have ac:Hid (w.heap.size<=W.heap.size):=l.o.size;clear c0 z M C p U L B
  go_upto_region 2 with fail
  refine IK (by kernel_rfl) (by kernel_rfl) (fun u u'=>Below u u u') (zB.drew) (fun u u' h1 h2=>Below.step h1 h2) 28 (fun i=>i+21) (dfF W gt Z n v D) (fun _ _=>False)
   (fun k u=>(k=0/\u=.pointer (some ⟨gt,0,none⟩))\/(k=1/\u=.int .i64 (n:Int))\/(k=2/\u=v)) R7 (fun _ _ f=>f.elim) (fun i j a8=>by omega) (fun i k u hk=>by rcases hk with⟨rfl,_⟩|⟨rfl,_⟩|⟨rfl,_⟩<;>omega) 7 (by kernel_rfl) (by kernel_rfl) ⟨rfl,rfl,fun k u hk=>?_⟩ ?_ ?_
  .rcases hk with⟨rfl,rfl⟩|⟨rfl,rfl⟩|⟨rfl,rfl⟩<;>rfl
  .intro Dn b u d i o ad c ar m;have aq:=d.old 0 _ (zt ⟨rfl,rfl⟩);have aj:=d.old 1 _ (zu (zt ⟨rfl,rfl⟩));have ag:=d.old 2 _ (zu (zu ⟨rfl,rfl⟩))
   match i,ad,c,ar,m with
   | 0,_,c,_,m=>
    simp only[zj,zw]at c;subst c;exact qC (.tmp 0) rfl ⟨_,rfl,zB,aq,fun _ f=>f.elim⟩
   | 1,_,c,_,m=>
    simp only[zj,zk,zw]at c;subst c;have e0:=d.fact 0 (m ⟨0,.data⟩ (by simp) rfl);exact mv (.tmp 21) rfl ⟨gt,0,none⟩ e0 ⟨_,rfl,zB,rfl,fun _ f=>f.elim⟩
   | 2,_,c,_,m=>
    simp only[zj,zk,zw]at c;subst c;have e1:=d.fact 1 (m ⟨1,.data⟩ (by simp) rfl);exact sK (v:=.pointer (some ⟨gt,196,none⟩)) (w':=u) (by unfold execOp;simp only[Act.eval];rw[show b.tmps.getD 22 undef=_ from e1];simp[go_sem]) ⟨_,rfl,zB,rfl,fun _ f=>f.elim⟩
   | 3,_,c,_,m=>
    simp only[zj,zk,zw]at c;subst c;have e2:=d.fact 2 (m ⟨2,.data⟩ (by simp) rfl);obtain⟨_,_,_,_,p,_⟩:=sZ (we d.b Q.o.row);exact sK (v:=.map (some Z)) (w':=u) (by unfold execOp;simp only[Act.eval];rw[show b.tmps.getD 23 undef=_ from e2];simp[go_sem,p]) ⟨_,rfl,zB,rfl,fun _ f=>f.elim⟩
   | 4,_,c,_,m=>
    simp only[zj,zk,zw]at c;subst c;exact qC (.tmp 1) rfl ⟨_,rfl,zB,aj,fun _ f=>f.elim⟩
   | 5,_,c,_,m=>
    simp only[zj,zk,zw]at c;subst c;exact qC (.tmp 2) rfl ⟨_,rfl,zB,ag,fun _ f=>f.elim⟩
   | 6,_,c,_,m=>
    simp only[zj,zk,zw]at c;subst c;have e5:b.tmps.getD 26 undef=v:=d.fact 5 (m ⟨5,.data⟩ (by simp) rfl);refine Ve 87 #[.tmp 26] #[23] rfl (fun _ _=>by kernel_rfl) #[v] (by simp only[uG,yI,un,Act.eval];rw[e5];rfl) (fun Y w'=>lq D u Y w')
     ((jB v D u (xT.below ap.o d.b) (by omega) (by omega)).mono fun e w' ⟨Y,he,x1⟩=>⟨Y,he,x1⟩) ?_
    rintro Y w' ⟨g,al,ab,q1,q2,q3,q4,q5⟩;exact⟨_,rfl,q5,⟨g,al,ab,by rw[q1,hD],hD,by rw[<-hD];exact q2.2,zr d.b.size q2.1,q3,by rw[<-hD];exact q4⟩,fun _ f=>f.elim⟩
  .intro Dn b u d q o c;simp only[zj,zk,zw]at c;subst c;have e3:b.tmps.getD 24 undef=.map (some Z):=d.fact 3 (q 3 (by omega));have e4:b.tmps.getD 25 undef=.int .i64 (n:Int):=d.fact 4 (q 4 (by omega));have e6:su u W (b.tmps.getD 27 undef) D:=d.fact 6 (q 6 (by omega));have A:=Q.o.below d.b;generalize ai:b.tmps.getD 27 undef=u6 at e6;obtain⟨w6,N,af,aa⟩:=A.puts.store intT mz (by have:=J.o;omega) (k:=(n:Int)) (by unfold InZ;omega) u6;refine K7 (w':=w6) (by unfold execOp;simp only[Act.eval];rw[e3,e4,ai];simp[N,Result.andThen]) ?_;have I:yK (fun i=>i=Z) u w6:=yK.grown aa.grown (fun r hr=>by injection hr with hr;exact hr.symm);have P:=Below.step l.o d.b;refine⟨d.dfs,.tuple #[],(by simp[results,results130,go_sem]),rfl,T,?_,fun _ R=>zt R,(yK.of_below P).step (I.mono fun i _ R=>by rw[R];exact HL.o.tp),fun _ R=>R⟩;rw[zb (by decide)];exact A.putMap (an.o.below d.b) (n:Int) _ D (e6.mono (zr am.o.size ac.o)) I af (by have:=J.o;rw[<-HL.o.secs.len];omega)
def uN {α:Type} (t p:List (Int×α)):List (Int×α):=p.foldl (fun t y=>putZ t y.1 y.2) t
theorem XL {α:Type} {a b:Int} (j:a≠b) (x y:α):∀z:List (Int×α),putZ (putZ z a x) b y=putZ (putZ z b y) a x
 | []=>by
  simp only[putZ];by_cases h:b<a
  .rw[ze h,zb (by omega),zb j]
  .rw[zb h,zb (yF j),ze (by omega)]
 | c::z=>by
  have i:=XL j x y z;simp only[putZ];by_cases f:a<c.1
  .rw[ze f];by_cases d:b<c.1
   .rw[ze d];simp only[putZ];by_cases h:b<a
    .rw[ze h,zb (by omega),zb j,ze f]
    .rw[zb h,zb (yF j),ze d,ze (by omega)]
   .rw[zb d];by_cases e:b=c.1
    .rw[ze e];simp only[putZ];rw[zb (by omega),zb (yF j),zb d,ze e,ze (by omega)]
    .rw[zb e];simp only[putZ];rw[zb (by omega),zb (yF j),zb d,zb e,ze f]
  .rw[zb f];by_cases g:a=c.1
   .rw[ze g];by_cases d:b<c.1
    .rw[ze d];simp only[putZ];rw[ze (by omega),zb (by omega),zb j,zb f,ze g]
    .rw[zb d,zb (by omega)];simp only[putZ];rw[zb (by omega),zb (by omega),zb f,ze g]
   .rw[zb g];by_cases d:b<c.1
    .rw[ze d];simp only[putZ];rw[ze d,zb (by omega),zb j,zb f,zb g]
    .rw[zb d];by_cases e:b=c.1
     .rw[ze e];simp only[putZ];rw[zb d,ze e,zb (by omega),zb (by omega)]
     .rw[zb e];simp only[putZ];rw[zb d,zb e,zb f,zb g,i]
theorem XR {α:Type}:∀{l:List (Int×α)},(l.map (·.1)).Nodup->∀{x y:Int×α},x∈l->y∈l->x.1=y.1->x=y
 | [],_,x,y,b,_,_=>by cases b
 | c::l,d,x,y,b,a,h=>by
  rw[yI,vY]at d;rcases yN.1 b with b|b
  .rcases yN.1 a with a|a
   .rw[b,a]
   .rw[b]at h;exact yb (show c.1∈l.map (·.1) from zV.2 ⟨y,a,h.symm⟩) d.1
  .rcases yN.1 a with a|a
   .rw[a]at h;exact yb (show c.1∈l.map (·.1) from zV.2 ⟨x,b,h⟩) d.1
   .exact XR d.2 b a h
theorem J7 {t p q:List (Int×α)} (c:p.Perm q) (d:(p.map (·.1)).Nodup):uN t p=uN t q:=by
 refine c.foldl_eq' (fun x b y a z=>?_) t;by_cases h:x.1=y.1
 .have:=XR d b a h;subst this;rfl
 .exact XL (fun e=>h (by simpa using e)) _ _ _
theorem KD (t:List (Int×α)):∀p:List (Int×α),(uN t p).length<=t.length+p.length:=fun p=>by
 unfold uN
 induction p generalizing t with
 | nil=>simp
 | cons y p a=>
  have c:=a (putZ t y.1 y.2);have b:=oS y.1 y.2 t;rw[wS,yz];omega
def dfK (s:Fs) (b:List Int) (put:List (Int×List Int)):Nat->List (Int×List Int)
 | 0=>put
 | j+1=>if eqB (secE s (1+j)) (sec b j)=true then dfK s b put j else putZ (dfK s b put j) ((1+j:Nat):Int) (sec b j)
def dfQ (s:Fs) (q:List Int) (put:List (Int×List Int)):List (Int×List Int):=if eqB (secE s 4) q=true then put else putZ put ((4:Nat):Int) q
def tq (x:Tx) (s:Fs):List (Int×List Int):=dfQ s (sr x.rows.length x.rows) (dfK s (uC x.fo) x.put 3)
theorem Gh (s:Fs) (b:List Int) (put:List (Int×List Int)):∀j,(dfK s b put j).length<=put.length+j
 | 0=>zL
 | j+1=>by
  have a:=Gh s b put j;unfold dfK;split
  .omega
  .have:=oS ((1+j:Nat):Int) (sec b j) (dfK s b put j);omega
theorem iS (s:Fs) (q:List Int) (put:List (Int×List Int)):(dfQ s q put).length<=put.length+1:=by
 unfold dfQ;split
 .omega
 .exact oS _ _ _
theorem NO (d n:Value) (fo m:Fo) (rv o p hv:Value):((fsR d n fo rv o p hv).toList.take 2++(encF m).toList++(fsR d n fo rv o p hv).toList.drop (2+(encF m).size)).toArray=fsR d n m rv o p hv:=by
 apply yV;intro i;have c:(encF m).toList.length=192:=by simpa using uh m
 have a:(fsR d n fo rv o p hv).toList.length=198:=by simpa using jp d n fo rv o p hv
 have f:∀j,(fsR d n fo rv o p hv).toList[j]?=(fsR d n fo rv o p hv)[j]? :=fun j=>zP;rw[xB,uh];by_cases k:i<2
 .rw[zU,zO (by rw[zi,a];omega),zI,ze k,f,lN _ _ _ _ _ _ _ _ (by omega),lN _ _ _ _ _ _ _ _ (by omega)];unfold lJ;by_cases b:i=0
  .rw[ze b,ze b]
  .rw[zb b,zb b,ze (by omega),ze (by omega)]
 .by_cases g:i<194
  .rw[zU,zx (by rw[zi,a];omega),zO (by rw[zi,a,c];omega),zi,a,zP,show i-min 2 198=i-2 by omega];have:=iM d n m rv o p hv (i-2) (by rw[uh];omega);rw[show 2+(i-2)=i by omega]at this;exact this.symm
  .rw[zU,zx (by rw[zi,a];omega),zx (by rw[zi,a,c];omega),yo,zi,a,c,f];rw[show 2+192+(i-min 2 198-192)=i by omega];by_cases e:i<198
   .rw[lN _ _ _ _ _ _ _ _ e,lN _ _ _ _ _ _ _ _ e];unfold lJ;have l:¬i=0:=(by omega);have h:¬i=1:=(by omega);simp only[l,h,g,ua]
   .rw[ya (by rw[jp];omega),ya (by rw[jp];omega)]
theorem LL (d c:Value) (fo:Fo) (rv e f g:Value) (i:Nat) (_h:194<=i) (u:Value) (h:i<198):(fsR d c fo rv e f g).setIfInBounds i u=Array.ofFn (n:=198) fun j=>if j.val=i then u else lJ d c fo rv e f g j.val:=by
 apply yV;intro j;rw[yO,jp];by_cases b:i=j
 .rw[ze b,ze (by omega)];subst b;simp[h]
 .rw[zb b];by_cases a:j<198
  .rw[lN _ _ _ _ _ _ _ _ a];simp[a,yF b]
  .rw[ya (by rw[jp];omega),ya (by simp;omega)]
theorem RC (d a:Value) (fo:Fo) (rv b c hv u:Value):(fsR d a fo rv b c hv).setIfInBounds 194 u=fsR d a fo u b c hv:=by
 rw[LL _ _ _ _ _ _ _ 194 (by omega) u (by omega)];unfold fsR
 congr 1
 funext j
 unfold lJ;by_cases h:j.val=194
 .simp[h]
 .simp[h]
theorem P0 (d a:Value) (fo:Fo) (rv c b hv u:Value):(fsR d a fo rv c b hv).setIfInBounds 195 u=fsR d a fo rv u b hv:=by
 rw[LL _ _ _ _ _ _ _ 195 (by omega) u (by omega)];unfold fsR
 congr 1
 funext j
 unfold lJ;by_cases h:j.val=195
 .simp[h]
 .simp[h]
theorem uL.without {d:Value} {st:Dk} {k:Nat} {FD:Nat->Prop} (h:uL w d st k FD) (I:w.heap[g]?=some (.cells c t fr)) (K:t≠113) (J:t≠5) (M:t≠115):uL w d st k (fun i=>FD i/\i≠g):=by obtain⟨p,q,y,F,E,L,rfl,a⟩:=h;refine⟨p,q,y,F,E,L,rfl,{a with fd:=⟨a.fd,tj a.hd I (yF K)⟩,fs:=⟨a.fs,tj a.hs I (yF J)⟩,fn:=⟨a.fn,tj a.hn I (yF J)⟩,fw:=fun b j=>⟨a.fw b j,fun G=>rW a.own I (yF M) (by rw[j,G])⟩,ent:=?_,fin:=fun i x=>a.fin i x.1}⟩;intro i n v B;obtain⟨r,D,H,s,e,f,z,u,A,C,m,l,o⟩:=a.ent i n v B;exact⟨r,D,H,s,e,f,z,u,⟨A,tj l I (yF J)⟩,C,m,l,o⟩
theorem S8 {gl:Nat} {sq:Int} (h:w.heap[gl]?=some (.cells (logR a sq) 159)):
 Calls prog 131 #[(gl,())] w (fun e w'=>e=.returned (30:Int)/\w=w'):=by
 have b:w.cell? (gl,2)=some (.int .i64 32):=xR _ _ 2 _ _ _ h;clear h;go_enter func131,ntmps131;go_wp2;go_ret;simp
theorem ZF {_base _c:Nat} {cur:Array Value} (f:D.length=n) (h:w.heap[g]?=some (.cells cur t)) (i:cur.toList.take n=u8s D) (o m e:Nat) (k:o+m<=n):vC w (g,o,m,e) ((D.drop o).take m):=by
 have a:((D.drop o).take m).length=m:=by rw[zi,yx,f];omega
 refine⟨by rw[vO,a,vD],zu ⟨g,o,e,by rw[a],fun j x c=>?_⟩⟩;have b:j<m:=by
  have:=(zy.1 c).1
  rwa [vO,a]at this
 rw[zC h,<-zP];have d:(cur.toList.take n)[o+j]?=(u8s D)[o+j]? :=by rw[i]
 rw[zI,ze (by omega)]at d;rw[d];rw[od,zI,ze b,mr,yo]at c;exact c
theorem rA.not_cells {K:TypeId} {b r:Nat} {cnt:Nat} (h:rA P K w b r l done cnt) (z:w.heap[g]?=some (.cells c t fr)):g≠r:=by rintro rfl;obtain⟨p,m,s,n,i,⟨q,e,d,f,x,o,y,u,j,a,k⟩,v⟩:=h;rw[z]at a;injection a with a;cases a
theorem O7 {β:Type}:∀{pl:List (Int×α)} {put:List (Int×β)} (d:β),pl.map (·.1)=put.map (·.1)->se pl->pl.map (fun y=>(y.1,(getZ put y.1).getD d))=put:=fun {pl put} d a g=>by
 have c:se put:=by have b:(pl.map (·.1)).Pairwise (· < ·):=wh.2 g;rw[a]at b;exact wh.1 b
 have e:pl.map (fun y=>(y.1,(getZ put y.1).getD d))=(pl.map (·.1)).map (fun k=>(k,(getZ put k).getD d)):=by rw[vB];rfl
 rw[e,a,vB]
 conv=>rhs;rw[<-List.map_id put]
 refine wW fun y f=>?_;show (y.1,(getZ put y.1).getD d)=y;rw[mJ c (k:=y.1) (v:=y.2) f];rfl
def kpF (gt gf:Nat) (A:Array Value) (rv nv:Value) (i:Nat) (v:Value):Prop:=
 if i=5 then v=.pointer (some ⟨gt,1,none⟩) else if i=6 then v=.agg A else if i=9 then v=.pointer (some ⟨gt,193,none⟩) else if i=10 then v=rv else if i=13 then v=.pointer (some ⟨gt,194,none⟩) else if i=14 then v=nv
 else if i=16 then v=.pointer (some ⟨gf,2,none⟩) else if i=19 then v=.pointer (some ⟨gf,194,none⟩) else if i=22 then v=.pointer (some ⟨gf,195,none⟩) else if i=17\/i=20\/i=23 then v=undef
 else if i=0\/i=1\/i=2\/i=15\/i=18\/i=21 then v=.pointer (some ⟨gf,0,none⟩) else v=.pointer (some ⟨gt,0,none⟩)
theorem Iz {a:Act} (m:TypeId) (x y:Operand) (u:o.op=.store m x y)
 (g k:Nat) (q:Option Addr) (n c:Nat) (v:a.eval x=.pointer (some (g,k))) (z:a.eval y=.slice q n c) (r:(P.info? m).map (·.size)=some 1)
 (l:Array Value) (t:TypeId) (s:w.heap[g]?=some (.cells l t)) (p:k<l.size)
 (h:K (a.put o.dst undef) (w.setCell (g,k) (q,n,c))):o.wp P a w K Q:=by
 have f:w.cell? (g,k)=some l[k]:=by rw[zC s];exact xt p
 have d:w.frozen? (g,k)=false:=zF s;cases b:P.info? m with
 | none=>simp[b]at r
 | some i=>
  have e:i.size=1:=by simpa[b]using r
  unfold Oper.wp execOp;simp only[u,v,z];have j:(sizeOf m).run P w=.ok 1 w:=by simp[sizeOf,typeInfo,b,e]
  simp[go_sem,j,f,d,Result.andThen];exact h
theorem te.drop {w:World} {B:Nat} {k:Int}:∀{pl:List (Int×Value)} {l:List (Int×List Int)},te w B pl l->te w B (delZ pl k) (delZ l k)
 | [],[],_=>te.nil _ _
 | [],y::l,h=>by have:=h.len;simp at this
 | x::pl,[],h=>by have:=h.len;simp at this
 | x::pl,y::l,h=>by
  obtain⟨b,c,d⟩:=h.tail;have a:=te.drop (k:=k) d;unfold delZ at a ⊢;rw[vy,vy,b];split
  .exact te.cons b c a
  .exact a
theorem R8 (l:List (Int×α)) (k:Int):(delZ l k).length<=l.length:=vd _ _
theorem uP.nodeAt (h:uP w B F T gt fp x rv gn cn gd gp gv E pl) (S:x.nodes.length=32) (i:Nat) (V:i<32) (X:Pn) (U:x.nodes[i]?=some X):
 ∃yq yn yc,w.cell? (gn,i*8)=some (.int .i64 X.k)/\w.cell? (gn,i*8+1)=some (.int .i64 X.m)/\w.cell? (gn,i*8+2)=some (.int .i64 X.u)/\w.cell? (gn,i*8+3)=some (.int .i64 X.g) /\
  w.cell? (gn,i*8+4)=some (.int .i64 X.s)/\w.cell? (gn,i*8+5)=some (.int .i64 X.l)/\w.cell? (gn,i*8+6)=some (.int .i64 X.up)/\w.cell? (gn,i*8+7)=some (.slice yq yn yc) /\
  Out (fun i=>F i\/T i) w (fun w'=>vQ w' (yq,yn,yc) X.P):=by
 have f:E.length=32:=by rw[h.nds.1];exact S
 have p:xT w (.slice (some ⟨gn,0,none⟩) 32 cn) 8 E.length (uu E):=by rw[f];exact xT.of_owns h.own
 obtain⟨Q,I,j,D⟩:=jC p;rw[f]at j D;injection j with c _ a;subst c a;obtain⟨g,o,b,R,O⟩:=D.o (by omega);injection b with b;injection b with c a;subst c a;have e:i<E.length:=by omega
 have d:i<x.nodes.length:=by omega
 obtain⟨q,c,a,z,A,r,t,C⟩:=mG O i e;have n:=h.nds.2 i e d;have y:x.nodes[i]=X:=by rw[zf d]at U;injection U
 rw[y]at n;obtain⟨G,H,L,N,M,J,K,v⟩:=n;rw[G]at q;rw[H]at c;rw[L]at a;rw[N]at z;rw[M]at A;rw[J]at r;rw[K]at t;simp only[yL]at q c a z A r t C;exact⟨_,_,_,q,c,a,z,A,r,t,C,v⟩
def gonS (s:Nat->Bool) (g:List Int):Nat->Bool:=g.foldl (fun s p=>del s p.toNat) s
def gonP (put:List (Int×List Int)) (g:List Int):List (Int×List Int):=g.foldl (fun t p=>delZ t p) put
theorem Rr (g:List Int):∀put:List (Int×List Int),(gonP put g).length<=put.length:=by
 unfold gonP
 induction g with
 | nil=>intro put;exact zL
 | cons p g a=>intro put;rw[wS];exact zr (a _) (R8 _ _)
def rL (X:Pn):List Int:=rM X.k X.m X.u X.g X.s X.l X.up X.P
def ju (X:Pn):Int:=vL X.k X.m X.u X.g X.s X.l X.up X.P
def atL (L:List (Option Value)) (i:Nat) (v:Value):Prop:=match L[i]? with|some (some x)=>v=x|_=>True
theorem Qg (l:List Int) (j:Nat):(byts l)[j]?=(u8s l)[j]? :=by simp[byts,u8s]
theorem XG {l:List Int} (h:w.heap[g]?=some (.cells (byts l) t)) (j:Nat) (y:Value) (b:(u8s l)[j]?=some y):w.cell? ((⟨g,0,none⟩:Addr).add j)=some y:=by
 have a:(⟨g,0,none⟩:Addr).add j=⟨g,j,none⟩:=by unfold Addr.add;split<;>simp_all
 rw[a,zC h,Qg,b]
theorem Ph {B':Nat} {xs:List Value} (h:w.ownsRow B 5 1 v (32+32) xs) (j:D.length=64) (k:u8s D=xs) (hB:B'<=B):su w B' v D:=by
 obtain⟨_,⟨_,i⟩|⟨g,c,b,rfl,e,d,a,_,_,f⟩⟩:=h
 .cases i
 .exact⟨g,c,b,rfl,j,a,zr hB e,d,by rw[k];exact f⟩
theorem Ge {a:Act} (s x:Operand) (t:TypeId) (A:o.op=Op.call {callee:=Callee.builtin Builtin.append,args:=#[s,x],argTypes:=#[t,t]})
 (e:TypeId) (i:TypeInfo) (z:Value) (h k:Nat) (B:P.underlying t=some (.slice e)) (C:P.info? e=some i) (D:i.zero=some z) (E:i.size=h) (F:i.bytes=k) (G:z.cells.size=h) (H:0<h)
 (b:Addr) (n cap:Nat) (l:List Value) (I:a.eval s=.slice (some b) n cap) (v:l.length=n*h) (q:∀j u,l[j]?=some u->w.cell? (b.add j)=some u)
 (y:Addr) (m c:Nat) (p:List Value) (J:a.eval x=.slice (some y) m c) (L:p.length=m*h) (M:∀j u,p[j]?=some u->w.cell? (y.add j)=some u)
 (r:cap<n+m) (N:n+m<=maxLen) (b2:(n+m)*k<=140737488355328)
 (O:∀v' w',w'.ownsRow w e h v' (n+m) (l++p)->w.grownBy w' none->K (a.put o.dst v') w'):o.wp P a w K Q:=by
 obtain⟨v',w',d,g,f⟩:=run_append_arg_grows (P:=P) w t o.type e i z h k B C D E F G H b n cap l v q y m c p L M r N b2;unfold Oper.wp;simp[execOp,A,resolve,invoke,builtin,I,J,d,Result.andThen];exact O v' w' g f
theorem uP.withFo (h:uP w B F T gt fp x rv gn cn gd gp gv E pl) (n:T gt) (fo:Fo)
 (m:yK (fun i=>i=gt) w w') (o:w'.heap[gt]?=some (.cells (txR fp fo rv (.slice (some ⟨gn,0,none⟩) 32 cn) (.map (some gd)) (.map (some gp)) gv x.full x.fake) 150)):uP w' B F T gt fp {x with fo:=fo} rv gn cn gd gp gv E pl:=by
 have c:yK T w w':=m.mono fun i _ e=>by rw[e];exact n
 have d:∀b,b<w.heap.size->b≠gt->w'.heap[b]?=w.heap[b]? :=fun b k j=>m.block b k j;refine⟨o,lB h.rows c (fun _ e=>zt e),?_,qQ h.nds c (fun _ e=>zt e),?_,?_,?_,h.ne,?_,h.tn,h.td,h.tp,h.tg⟩
 .exact uV h.own fun b a=>d b (h.own.lt b a).2 (rt h.own h.row (by decide) b a)
 .exact h.dirt.of_block (d gd h.dirt.lt (yF (tG h.row h.dirt)))
 .exact h.puts.of_block (d gp h.puts.lt (yF (tG h.row h.puts)))
 .exact h.secs.keep fun g l _ f=>d g (xL f) (tj f h.row (by decide))
 .exact uV h.gone fun b a=>d b (h.gone.lt b a).2 (rt h.gone h.row (by decide) b a)
theorem uP.withPut {pl':List (Int×Value)} {l':List (Int×List Int)} (h:uP w B F T gt fp x rv gn cn gd gp gv E pl)
 (v:yK (fun i=>i=gp) w w') (y:MapL prog 3 w' gp pl') (z:te w' B pl' l'):uP w' B F T gt fp {x with put:=l'} rv gn cn gd gp gv E pl':=by
 have c:yK T w w':=v.mono fun i _ d=>by rw[d];exact h.tp
 have e:∀b,b<w.heap.size->b≠gp->w'.heap[b]?=w.heap[b]? :=fun b n k=>v.block b n k;obtain⟨q,m,u,p,t,s,o⟩:=h.block;refine⟨(e gt (xL h.row) (tG h.row h.puts)).trans h.row,lB h.rows c (fun _ d=>zt d),?_,qQ h.nds c (fun _ d=>zt d),?_,y,z,h.ne,?_,h.tn,h.td,h.tp,h.tg⟩
 .exact uV h.own fun b a=>e b (h.own.lt b a).2 (by injection a with a;rw[<-a];exact tG m h.puts)
 .exact h.dirt.of_block (e gd h.dirt.lt h.ne)
 .refine uV h.gone fun b a=>e b (h.gone.lt b a).2 ?_;obtain⟨_,⟨j,_⟩|⟨g,r,l,j,_,f,_⟩⟩:=id h.gone
  .rw[j]at a;cases a
  .rw[j]at a;injection a with a;rw[<-a];exact tG f h.puts
theorem PS (s:Nat->Bool) (g:List Int) (p:Int):gonS s (g++[p])=del (gonS s g) p.toNat:=by unfold gonS;rw[xF];rfl
theorem PT (t:List (Int×List Int)) (g:List Int) (p:Int):gonP t (g++[p])=delZ (gonP t g) p:=by unfold gonP;rw[xF];rfl
theorem X2 (f:Fo) (s t:Nat->Bool):hasF (hasF f s) t=hasF f t:=by
 unfold hasF
 congr 1
 funext k
 simp only;split<;>rfl
theorem Kd (f:Fo):hasF f (f.hs 0)=f:=by
 unfold hasF;cases f with
 | mk b a=>
  congr 1
  funext k
  simp only;split
  .next h=>rw[h]
  .rfl
def pP (x:Tx) (j:Nat):Tx:={x with fo:=hasF x.fo (gonS (x.fo.hs 0) (x.gone.take j)),put:=gonP x.put (x.gone.take j)}
theorem Li (x:Tx):pP x 0=x:=by unfold pP gonS gonP;rw[xE,jR,jR,Kd]
theorem Lj (x:Tx) (j:Nat) (p:Int) (b:x.gone[j]?=some p):pP x (j+1)={pP x j with fo:=hasF (pP x j).fo (del ((pP x j).fo.hs 0) p.toNat),put:=delZ (pP x j).put p}:=by
 have a:x.gone.take (j+1)=x.gone.take j++[p]:=by rw[sE,b];rfl
 unfold pP;rw[a,PS,PT];simp only[X2];rfl
open Go.Shelf Go.Sort
def toJs (y:Int×Value):Js:=(Fin.ofNat 256 y.1.toNat,match y.2 with|.slice q n c=>(q,n,c)|_=>(none,0,0))
def lH (l:List (Int×Value)):List Value:=l.flatMap fun y=>[.int .i64 y.1,y.2]
def IsW (y:Int×Value):Prop:=(0<=y.1/\y.1<256)/\∃q n c,y.2=.slice q n c
theorem Sl (h:IsW y):encS (toJs y)=[.int .i64 y.1,y.2]:=by
 obtain⟨⟨d,b⟩,q,n,c,a⟩:=h;obtain⟨k,v⟩:=y;dsimp only at d b a;subst a;unfold encS toJs;dsimp only;rw[Fin.val_ofNat,vx (by omega)]
 congr 2
 omega
theorem K9 (h:∀y∈l,IsW y):lH l=(l.map toJs).flatMap encS:=by
 unfold lH;rw[List.flatMap_map]
 induction l with
 | nil=>rfl
 | cons y l a=>rw[xA,xA,a (fun z b=>h z (xh _ b)),Sl (h y xx)]
theorem Vm (h:IsW y):((toJs y).1.val:Int)=y.1:=by obtain⟨⟨a,b⟩,_⟩:=h;unfold toJs;dsimp only;rw[Fin.val_ofNat,vx (by omega)];omega
theorem QN {T:List Js} (s:se l) (r:∀y∈l,IsW y) (t:done.Perm l) (u:T.Perm (done.map toJs)) (w:T.Pairwise (fun a b=>a.1.val<=b.1.val)):T=l.map toJs:=by
 have c:T.Perm (l.map toJs):=u.trans (t.map _);have j:(l.map toJs).Pairwise (fun a b=>a.1.val<=b.1.val):=by rw[wh];refine (List.Pairwise.and_mem.1 s).imp fun {a b} h=>?_;have m:=Vm (r a h.1);have g:=Vm (r b h.2.1);have p:=h.2.2;omega
 refine List.Perm.eq_of_pairwise (fun x y n i m g=>?_) w j c;obtain⟨a,e,rfl⟩:=zV.1 (c.mem_iff.1 n);obtain⟨b,f,rfl⟩:=zV.1 i;have o:=Vm (r a e);have q:=Vm (r b f);have d:a.1=b.1:=by omega
 have:=mJ s (k:=a.1) (v:=a.2) e;rw[d,mJ s (k:=b.1) (v:=b.2) f]at this;have:a=b:=Prod.ext d (rS this).symm;rw[this]
theorem Md (l:List (Int×Value)) (k:Int) (v:Value):lH (l++[(k,v)])=lH l++[.int .i64 k,v]:=by unfold lH;rw[vJ];rfl
def pI (tl:List (Int×Value)) (todo:List (Int×List Int)):List Jw:=List.zipWith (fun y z=>⟨y.1.toNat,y.2,z.2⟩) tl todo
theorem Ia : ∀{tl:List (Int×Value)} {todo:List (Int×List Int)},tl.length=todo.length->(∀y∈tl,IsW y)->ni (pI tl todo)=lH tl
 | [],[],_,_=>rfl
 | [],_::_,h,_=>by simp at h
 | _::_,[],h,_=>by simp at h
 | y::tl,z::todo,h,a=>by
  have c:=Ia (tl:=tl) (todo:=todo) (by simpa using h) fun q b=>a q (xh _ b);have d:=(a y xx).1;show ni (⟨y.1.toNat,y.2,z.2⟩::pI tl todo)=_;rw[show (⟨y.1.toNat,y.2,z.2⟩:Jw)::pI tl todo=[⟨y.1.toNat,y.2,z.2⟩]++pI tl todo from rfl,IG,c];show _=[Value.int .i64 y.1,y.2]++lH tl
  congr 1
  show [Value.int .i64 (y.1.toNat:Int),y.2]=_;rw[show ((y.1.toNat:Nat):Int)=y.1 by omega]
theorem X1 : ∀{tl:List (Int×Value)} {todo:List (Int×List Int)},tl.map (·.1)=todo.map (·.1)->(pI tl todo).map jab=todo.map (fun y=>(y.1.toNat,y.2))
 | [],[],_=>rfl
 | [],_::_,h=>by simp at h
 | _::_,[],h=>by simp at h
 | y::tl,z::todo,h=>by simp only[yI,tM]at h;have a:=X1 h.2;show jab ⟨y.1.toNat,y.2,z.2⟩::(pI tl todo).map jab=_;rw[a,yI];unfold jab;rw[h.1]
theorem PJ {tl:List (Int×Value)} {todo:List (Int×List Int)} (h:tl.length=todo.length):(pI tl todo).length=tl.length:=by unfold pI;rw[List.length_zipWith];omega
theorem XZ {w:World} {B:Nat}:∀{tl:List (Int×Value)} {todo:List (Int×List Int)},te w B tl todo->(∀y∈tl,IsW y)->∀x∈pI tl todo,qW w B x
 | [],_,_,_,x,a=>by simp[pI]at a
 | _::_,[],h,_,x,a=>by simp[pI]at a
 | y::tl,z::todo,h,d,x,a=>by
  obtain⟨r,e,n⟩:=h.tail;rcases yN.1 (show x∈⟨y.1.toNat,y.2,z.2⟩::pI tl todo from a) with rfl|a
  .have p:=(d y xx).1;obtain⟨g,b,c,j,o,k,m,l,f⟩:=e;exact⟨by show y.1.toNat<256;omega,o,g,b,c,j,⟨m,k⟩,l,f⟩
  .exact XZ n (fun q i=>d q (xh _ i)) x a
theorem XY {F:Nat->Prop}:∀{tl:List (Int×Value)} {todo:List (Int×List Int)},(∀y∈tl,∀g,y.2.ownBlock=some g->¬F g)->∀x∈pI tl todo,∀q,x.v.ownBlock=some q->¬F q
 | [],_,_,x,a=>by simp[pI]at a
 | _::_,[],_,x,a=>by simp[pI]at a
 | y::tl,z::todo,h,x,a=>by
  rcases yN.1 (show x∈⟨y.1.toNat,y.2,z.2⟩::pI tl todo from a) with rfl|a
  .exact h y xx
  .exact XY (fun q b=>h q (xh _ b)) x a
theorem wsInfo: (prog.info? 163).map (fun i=>(i.zero,i.size,i.bytes))=some (some (.agg #[(),.slice none 0 0]),2,32):=by kernel_rfl
theorem wsT: prog.underlying 108=some (.slice 163):=by kernel_rfl
theorem PV (h:FsAt w gf s F a) (hk:∀y∈s.todo,0<=y.1/\y.1<256) (hl:s.todo.length<=1000):
 Calls prog 46 #[(gf,())] w
  (fun e w'=>∃v E,e=.returned v/\qA w' w 0 v E/\(∀x∈E,∀q,x.v.ownBlock=some q->¬F q)/\E.map jab=s.todo.map (fun y=>(y.1.toNat,y.2))/\Below w w w'):=by
 obtain⟨⟨gl,rv,nv,U,bh,E,z,FD,h1,h2,h3,h4,h5,h6,h7,h8,h9,ab,j,aN,a9,aA,aB,aC,aM⟩,a1,a2,a3,a4,a5,a6,a7⟩:=h;obtain⟨_,_,_,_,ac,_⟩:=nu h1;have HM:=Lib.hid ab;have P:=Lib.hid j.sec;have aT:=Lib.hid j.out;have bo:Hid (gf<w.heap.size):=xL h1;have X:z.length=s.todo.length:=j.len;have L:Hid (z.length<=1000):=by show _<=_;omega
 have k:Hid (∀y∈z,IsW y):=fun y hy=>by
  obtain⟨i,hi,rfl⟩:=uA.1 hy;have J:i<s.todo.length:=by omega
  have ah:z[i].1=s.todo[i].1:=by have:=congrArg (fun l=>l[i]?) j.sec.1;simp only[xy,zf hi,zf J,rT,zw]at this;exact this
  refine⟨by rw[ah];exact hk _ (zz J),?_⟩;obtain⟨g,bu,aZ,hv,_⟩:=j.sec.2 i hi J;exact⟨_,_,_,hv⟩
 clear h1 h2 h3 h4 h5 h6 h7 h8 h9 ab j aN a9 aA aB aC aM a1 a2 a3 a4 a5 a6 a7 X;obtain⟨i0,am,aa,ar,aj⟩:=xp wsInfo;have aS:=Lib.hid am;have aI:=Lib.hid aa;have aE:=Lib.hid ar;have aK:=Lib.hid aj;clear am aa ar aj;go_enter func46,ntmps46;go_wp2_with (at_range;refine Ue _ rfl _ _ rfl 3 23 intT mz U z rfl HM.o ?_;intro w4 ao aq bi)
 have aO:Hid (Below w w w4):=xC zB aq zL (fun q H=>by cases H);have aF:=Lib.hid ao;obtain⟨r0,bd⟩:=zD w.heap.size;have aP:Hid (U<w.heap.size):=HM.o.lt;clear ao aq ac;simp only[Act.put,zM,yj,yh];go_loopw [3] (fun ov wr=>∃(c:List (Int×Value)) (M:Nat),Hid (rA prog 3 wr U w z c M)/\Hid (Below w w wr)/\Hid (wr.ownsRow (w.heap.size+1) 163 2 ov c.length (lH c))) (fun _ wr=>wr.rangeLeft U w.heap.size);case atStart=>exact⟨[],z.length,aF,aO,⟨rfl,zt ⟨rfl,rfl⟩⟩⟩
 case round=>
  obtain⟨c,M,O,A,r⟩:=hrel;have ae:=O.o.left_eq;go_wp2_with (first
   | (at_next;refine V8 _ rfl _ rfl 3 intT U _ z c M rfl O.o (fun hp=>?qd) (fun xk c' w' aw aQ B ai n d Y Q aD bx=>?qm);(case' qm=>(have D:=Lib.hid d;have af:=Lib.hid n;have br:=Lib.hid d.left_eq;have aR:=Lib.hid Y;obtain⟨q',n',N,ad⟩:=(k.o _ B).2;have ap:c'=Value.slice q' n' N:=ad;subst ap;have ay:Hid (Below w w w'):=xC A.o Q A.o.size (fun q H=>by injection H with H;omega);have I:Hid (w'.ownsRow (w.heap.size+1) 163 2 u3 c.length (lH c)):=uV r.o (fun b hb=>Q.block b (r.o.lt b hb).2 (fun S=>by injection S with S;have:=(r.o.lt b hb).1;omega));have m:Hid (w.heap.size<w'.heap.size):=d.lt;clear ad aQ B ai n d Y Q aD)))
   | (at_builtin;refine yH _ rfl _ _ 108 rfl (w.heap.size+1) 163 i0 (.agg #[(),.slice none 0 0]) 2 32 wsT aS.o aI.o aE.o aK.o rfl (by decide) _ c.length (lH c) rfl (th I.o (zB.alloc zL _)) ⟨w'.heap.size,0,none⟩ 1 1 [.int .i64 xk,.slice q' n' N] rfl rfl (xU (cs:=#[.int .i64 xk,.slice q' n' N]) (t:=163) (fr:=(0,0)) (zT w' _)) (by simp[Value.oneCell']) (by unfold maxLen;have:=af.o;have:=L.o;omega) (by have:=af.o;have:=L.o;omega) (by have:=m.o;simp;omega) ?_;intro v5 w5 an p _))
  .have V:∀b,u3.ownBlock=some b->w.heap.size+1<=b:=fun b hb=>(I.o.lt b hb).1;have av:∀b,b<=w.heap.size->b<w'.heap.size->w5.heap[b]?=w'.heap[b]? :=fun b h1 h2=>(p.block b (by simp;omega) (fun S=>by have:=V b S.symm;omega)).trans (ui _ _ h2);have G:=D.o.of_block (av U (by have:=aP.o;omega) D.o.map.lt) (av w zL m.o);refine⟨⟨_,aw,G,xC (ay.o.alloc ay.o.size _) p (by have:=m.o;simp;omega) (fun q H=>by have:=V q H;omega),?_⟩,by rw[G.left_eq,ae];exact aR.o⟩;show World.ownsRow _ _ _ _ _ _ _;rw[Md,zl];exact an
  .have C:∀y∈c,IsW y:=fun y hy=>k.o y (hp.mem_iff.1 hy);have R:=r.o;rw[K9 C,<-yw (f:=toJs)]at R;have ag:=Lib.hid (QP (w.heap.size+1) u3 (c.map toJs) wr R (by rw[yw,hp.length_eq];have:=L.o;omega));have al:=Lib.hid hp;clear hp C R ae;refine ag.o.mono ?_;rintro e w6 ⟨rfl,T,au,W,K,ax⟩;have ak:=QN O.o.map.2.1 k.o al.o au W;have Z:Hid (Below w w w6):=xC A.o ax A.o.size (fun q H=>by have:=(r.o.lt q H).1;omega);have u:z.length=s.todo.length:=P.o.len;have HJ:Hid (qA w6 w 0 u3 (pI z s.todo)):=(by refine⟨?_,XZ (P.o.keep fun g cc _ S=>Z.o.block g (xL S)) k.o⟩;rw[Ia u k.o,PJ u,K9 k.o];rw[ak,yw,al.o.length_eq]at K;exact mw K (by omega));clear au W K ax ak u;go_wp2;go_ret;exact⟨u3,_,rfl,HJ.o,XY aT.o,X1 P.o.1,Z.o⟩
end Go.Proofs.YtakfhadmokoikaaGreatDoor
namespace Go.Proofs.YtakfhadmokoikaaGreatDoor
open Go.Proofs.Tryz Go.RowKit
variable {F F':Nat->Prop} {w w':World}
theorem fZ {φ:World->Prop} (h:Out F w φ) (c:yK F w w') (d:∀i,F' i->F i\/w.heap.size<=i):Out F' w' φ:=fun b a=>h b (c.trans a d)
theorem iH {E:List Nd} {L:List Pn} (h:tP F w E L) (m:yK F w w') (n:∀i,F' i->F i\/w.heap.size<=i):tP F' w' E L:=
 ⟨h.1,fun i g e=>by obtain⟨b,l,c,f,a,d,j,k⟩:=h.2 i g e;exact⟨b,l,c,f,a,d,j,fZ k m n⟩⟩
theorem qA.keep {b B:Nat} {v:Value} {E:List Jw} (h:qA w b B v E) (g:∀i,i<w.heap.size->B<=i->w'.heap[i]?=w.heap[i]?) (j:B<=b):qA w' b B v E:=
 ⟨uV h.1 fun q a=>g q (h.1.lt q a).2 (zr j (h.1.lt q a).1),fun x f=>(h.2 x f).keep fun i c e d=>g i (xL d) e⟩
def wrOf (l:List (Int×List Int)):List Wr:=l.map fun y=>(y.1.toNat,y.2)
def mB (s:Fs):Fs:={s with dk:=runE s.dk (opsC s.sq (wrOf s.todo)),sq:=seqC s.sq (wrOf s.todo),todo:=[]}
def syL (gf gl:Nat):List (Option Value):=
 let t:Option Value:=some (.pointer (some ⟨gf,0,none⟩))
 [t,t,some (.pointer (some ⟨gf,1,none⟩)),some (gl,()),t,none,some (.int .i64 0),some (.int .i64 0)]
theorem Tl (d a:Value) (fo:Fo) (rv b c hv u:Value):(fsR d a fo rv b c hv).setIfInBounds 196 u=fsR d a fo rv b u hv:=by
 rw[LL _ _ _ _ _ _ _ 196 (by omega) u (by omega)];unfold fsR
 congr 1
 funext j
 unfold lJ;by_cases h:j.val=196
 .simp[h]
 .simp[h]
theorem iL {gf:Nat} {s:Fs} {a:Addr} (h:FsAt w gf s F a) (hg:mX s.k (wrOf s.todo)) (ah:∀y∈s.todo,0<=y.1/\y.1<256) (ai:0<=s.sq/\s.sq<=1000) (hW:s.dk.W.length<800000):
 Calls prog 14 #[(gf,())] w
  (fun e w'=>e=.returned ()/\FsAt w' gf (mB s) (fun i=>F i\/(w.heap.size<=i/\i<w'.heap.size)) a/\yK F w w'):=by
 have aR:=Lib.hid (fun (W:World) (hW:Below w w W)=>PV (h.below hW) ah (by have:=hg.l;unfold wrOf at this;rw[yw]at this;omega));obtain⟨⟨m,rv,nv,bt,C,E,tl,O,h1,h2,h3,h4,Y,h6,h7,h8,h9,aZ,bo,bf,aQ,aS,M,ap,aC⟩,a1,a2,a3,a4,a5,a6,a7⟩:=h;obtain⟨c0,c1,_,_,bx,_⟩:=nu h1;have aA:=h2.without h1 (by decide) (by decide) (by decide);have HD:=Lib.hid aA;have aD:=Lib.hid h1;have bp:=Lib.hid Y;have aw:m≠gf:=tj Y h1 (by decide);have aH:C≠gf:=fun c=>tG h1 M c.symm;have Z:C≠m:=fun c=>tG Y M c.symm;have X:Hid (m≠gf/\C≠gf/\C≠m):=⟨aw,aH,Z⟩;have f:Hid ((∀i,O i->F i)/\¬O m/\F m/\F gf/\F C/\¬O C/\(∀i,F i->i<w.heap.size)):=⟨h3,h4,h6,a1,ap,aC,a3⟩;have bl:=Lib.hid h7;have bm:=Lib.hid h8;have bn:=Lib.hid h9;have bc:=Lib.hid M;have z:Hid (gf<w.heap.size/\m<w.heap.size/\C<w.heap.size):=⟨xL h1,xL Y,M.lt⟩;have H:Hid (s.nodes.length=32/\64<=s.k/\s.k<=256/\s.rows.length<=20/\s.held.length<=1000/\∀y∈s.held,0<=y.2/\y.2<=1000000):=⟨a2,a5,a6,a7,a4⟩;have HG:=Lib.hid hg;have bg:=Lib.hid ai;have aU:=Lib.hid hW;obtain⟨V,an⟩:=zD (runE s.dk (opsC s.sq (wrOf s.todo)));clear h1 h2 h3 h4 Y h6 h7 h8 h9 aZ bo bf aQ aS M ap aC a1 a2 a3 a4 a5 a6 a7 aA aw aH Z hg ah ai hW c0;go_enter func14,ntmps14
 go_upto_region 1 with fail
 refine JQ (by kernel_rfl) (by kernel_rfl) (fun D g u=>(D 6=true->D 3=true/\D 5=true/\∃I,uL u (.pointer (some a)) V s.k I/\(∀i,I i->(O i/\i≠gf)\/w.heap.size<=i)/\yK (fun i=>(O i/\i≠gf)\/i=m) w u/\u.heap[m]?=some (.cells (logC a (seqC s.sq (wrOf s.todo))) 159)) /\
  (D 6=false->Below w w u/\(D 5=true->∃E,qA u w 0 (g 5) E/\(∀x∈E,∀q,x.v.ownBlock=some q->¬F q)/\E.map jab=wrOf s.todo)))
  18 (fun i=>if i<7 then 4+i else if i=7 then 3 else 1000+i) (atL (syL gf m)) (fun k v=>k=0/\v=.pointer (some ⟨gf,0,none⟩)) (fun i j bH=>?_) (fun i k v hk=>?_) (by kernel_rfl) ⟨rfl,rfl,fun k v hk=>?_,fun c=>by simp at c,fun _=>⟨zB.drew,fun c=>by simp at c⟩⟩ ?_ ?_
 .split<;>split<;>(try split)<;>(try split)<;>omega
 .obtain⟨rfl,_⟩:=hk;split<;>(try split)<;>omega
 .obtain⟨rfl,rfl⟩:=hk;rfl
 .intro D b u G i o r L A;have T:=G.old 0 _ ⟨rfl,rfl⟩;obtain⟨af,U⟩:=G.j;have hJ:∀n,n≠3->n≠5->n≠6->∀(g:Nat->Value),(∀k,k≠n->g k=b.tmps.getD (if k<7 then 4+k else if k=7 then 3 else 1000+k) undef)->(upd D n 6=true->upd D n 3=true/\upd D n 5=true/\∃I,uL u (.pointer (some a)) V s.k I/\(∀i,I i->(O i/\i≠gf)\/w.heap.size<=i)/\yK (fun i=>(O i/\i≠gf)\/i=m) w u/\u.heap[m]?=some (.cells (logC a (seqC s.sq (wrOf s.todo))) 159)) /\
   (upd D n 6=false->Below w w u/\(upd D n 5=true->∃E,qA u w 0 (g 5) E/\(∀x∈E,∀q,x.v.ownBlock=some q->¬F q)/\E.map jab=wrOf s.todo)):=fun n h3 Y h6 g hg=>by
   rw[qv (yF h6),qv (yF h3),qv (yF Y)];refine⟨af,fun c=>?_⟩;obtain⟨J,q2⟩:=U c;refine⟨J,fun ag=>?_⟩;rw[hg 5 (yF Y)];exact q2 ag
  match i,r,L,A with
  | 0,r,L,A=>
   simp only[zj,zw]at r;subst r;exact qC (.tmp 0) rfl ⟨_,rfl,(fun c=>yb c (by decide)),T,fun g _ hg=>hJ 0 (by omega) (by omega) (by omega) g hg⟩
  | 1,r,L,A=>
   simp only[zj,zk,zw]at r;subst r;have e0:=G.fact 0 (A ⟨0,.data⟩ (by simp) rfl);exact mv (.tmp 4) rfl ⟨gf,0,none⟩ e0 ⟨_,rfl,(fun c=>yb c (by decide)),rfl,fun g _ hg=>hJ 1 (by omega) (by omega) (by omega) g hg⟩
  | 2,r,L,A=>
   simp only[zj,zk,zw]at r;subst r;have e1:=G.fact 1 (A ⟨1,.data⟩ (by simp) rfl);exact sK (v:=.pointer (some ⟨gf,1,none⟩)) (w':=u) (by unfold execOp;simp only[Act.eval];rw[show b.tmps.getD 5 undef=_ from e1];simp[go_sem]) ⟨_,rfl,(fun c=>yb c (by decide)),rfl,fun g _ hg=>hJ 2 (by omega) (by omega) (by omega) g hg⟩
  | 3,r,L,A=>
   simp only[zj,zk,zw]at r;subst r;have e2:=G.fact 2 (A ⟨2,.data⟩ (by simp) rfl);have Q:D 6=false:=by
    cases h6:D 6 with
    | false=>rfl
    | true=>have:=(af h6).1;rw[L]at this;cases this
   obtain⟨J,q2⟩:=U Q;have c:u.cell? (gf,1)=some (.pointer (some ⟨m,0,none⟩)):=(J.cell (p:=⟨gf,1,none⟩) z.o.1).trans c1;refine sK (v:=.pointer (some ⟨m,0,none⟩)) (w':=u) (by unfold execOp;simp only[Act.eval];rw[show b.tmps.getD 6 undef=_ from e2];simp[go_sem,c]) ⟨_,rfl,(fun c=>yb c (by decide)),rfl,fun g _ hg=>?_⟩;rw[qv (by omega:(6:Nat)≠3),qv (by omega:(5:Nat)≠3)];refine⟨fun c=>(by rw[Q]at c;cases c),fun _=>⟨J,fun ag=>?_⟩⟩;rw[hg 5 (by omega)];exact q2 ag
  | 4,r,L,A=>
   simp only[zj,zk,zw]at r;subst r;exact qC (.tmp 0) rfl ⟨_,rfl,(fun c=>yb c (by decide)),T,fun g _ hg=>hJ 4 (by omega) (by omega) (by omega) g hg⟩
  | 5,r,L,A=>
   simp only[zj,zk,zw]at r;subst r;have e4:=G.fact 4 (A ⟨4,.data⟩ (by simp) rfl);have Q:D 6=false:=by
    cases h6:D 6 with
    | false=>rfl
    | true=>have:=(af h6).2.1;rw[L]at this;cases this
   obtain⟨J,q2⟩:=U Q;refine Ve 46 #[.tmp 8] #[26] rfl (fun _ _=>by kernel_rfl) #[(gf,())] (by simp only[uG,yI,un,Act.eval];rw[show b.tmps.getD 8 undef=_ from e4];rfl) (fun v' w'=>∃E,qA w' u 0 v' E/\(∀x∈E,∀q,x.v.ownBlock=some q->¬F q)/\E.map jab=wrOf s.todo/\Below u u w')
    ((aR.o u J).mono fun e w' ⟨v,E,he,x1,x0,x2,x3⟩=>⟨v,he,E,x1,x0,x2,x3⟩) ?_
   rintro v' w' ⟨E,x1,x0,x2,x3⟩;refine⟨_,rfl,(fun c=>yb c (by decide)),trivial,fun g br hg=>?_⟩;rw[qv (by omega:(6:Nat)≠5)];refine⟨fun c=>(by rw[Q]at c;cases c),fun _=>⟨Below.step J x3,fun _=>⟨E,?_,x0,x2⟩⟩⟩;rw[br];exact⟨mw x1.1 J.size,x1.2⟩
  | 6,r,L,A=>
   simp only[zj,zk,zw]at r;subst r;have e3:=G.fact 3 (A ⟨3,.data⟩ (by simp) rfl);have d5:=A ⟨5,.data⟩ (by simp) rfl;have d3:=A ⟨3,.data⟩ (by simp) rfl;obtain⟨J,q2⟩:=U L;obtain⟨E,x1,x0,x2⟩:=q2 d5;have aG:qA u w 0 (b.tmps.getD 9 undef) E:=x1;have a0:=we J bp.o;have bb:CS s.k u a m (fun i=>O i/\i≠gf) s.dk s.sq (fun _=>False) u:=⟨_,HD.o.below J,fun _ t=>zt t,fun _ c=>c.elim,yK.refl _ _,a0⟩;have aB:=N2 H.o.2.1 H.o.2.2.1 bb ⟨fun c=>f.o.2.1 c.1,xL a0⟩ _ E aG (fun x hx q hq=>⟨fun c=>x0 x hx q hq (f.o.1 q c.1),fun c=>x0 x hx q hq (by rw[c];exact f.o.2.2.1)⟩) (fun q hq=>have h9:=(aG.1.lt q hq).1;⟨fun c=>yb (f.o.2.2.2.2.2.2 q (f.o.1 q c.1)) (xM h9),fun c=>yb (f.o.2.2.2.2.2.2 q (by rw[c];exact f.o.2.2.1)) (xM h9)⟩) (by rw[x2];exact HG.o) bg.o aU.o;rw[x2,an.o]at aB;refine Ve 45 #[.tmp 7,.tmp 9] #[88,108] rfl (fun _ _=>by kernel_rfl) #[(m,()),b.tmps.getD 9 undef] (by simp only[uG,yI,un,Act.eval];rw[show b.tmps.getD 7 undef=_ from e3];rfl) (fun v' w'=>v'=.int .i64 0/\CS s.k u a m (fun i=>O i/\i≠gf) V (seqC s.sq (wrOf s.todo)) (fun _=>False) w')
    (aB.mono fun e w' ⟨he,x⟩=>⟨_,he,rfl,x⟩) ?_
   rintro v' w' ⟨rfl,I,y1,y2,_,y4,y5⟩;refine⟨_,rfl,(fun c=>yb c (by decide)),rfl,fun g _ hg=>⟨fun _=>⟨?_,?_,I,y1,fun i t=>(y2 i t).imp id fun h=>zr J.size h,(yK.of_below J).step y4,y5⟩,fun c=>?_⟩⟩
   .rw[qv (by omega:(3:Nat)≠6)];exact d3
   .rw[qv (by omega:(5:Nat)≠6)];exact d5
   .rw[Ww]at c;cases c
  | 7,r,L,A=>
   simp only[zj,zk,zw]at r;subst r;have e6:=G.fact 6 (A ⟨6,.data⟩ (by simp) rfl);exact KR (.tmp 10) rfl ⟨_,rfl,(fun c=>yb c (by decide)),e6,fun g _ hg=>hJ 7 (by omega) (by omega) (by omega) g hg⟩
 .intro D b u G N;obtain⟨d3,d5,I,y1,y2,y3,y4⟩:=G.j.1 (N 6 (by simp));clear d3 d5;have e7:b.tmps.getD 3 undef=.int .i64 0:=G.fact 7 (N 7 (by simp));have B:u.heap[gf]?=some (.cells (fsR (.pointer (some a)) (m,()) s.fo rv nv (.map (some bt)) (.map (some C))) 101):=(y3.block gf z.o.1 (fun c=>by
   rcases c with c|c
   .exact c.2 rfl
   .exact X.o.1 c.symm)).trans aD.o
  have ax:yK F w u:=y3.mono fun i _ t=>by
   rcases t with t|t
   .exact f.o.1 i t.1
   .rw[t];exact f.o.2.2.1
  have R:Hid (uL u (.pointer (some a)) V s.k I/\(∀i,I i->(O i/\i≠gf)\/w.heap.size<=i)/\yK (fun i=>(O i/\i≠gf)\/i=m) w u/\u.heap[m]?=some (.cells (logC a (seqC s.sq (wrOf s.todo))) 159)):=⟨y1,y2,y3,y4⟩;have ba:=Lib.hid B;have bk:=Lib.hid ax;have bi:=(nu B).2.2.2.2.1;have bv:u.frozen? (gf,196)=false:=zF B;have bd:gf<u.heap.size:=xL B;have bD:¬gf=u.heap.size:=by omega
  have d:=P2 18 b G.size G.dfs;have T:=G.old 0 _ ⟨rfl,rfl⟩;rw[show (List.range 18).map (fun k=>b.tmps.getD k undef)=[b.tmps.getD 0 undef,b.tmps.getD 1 undef,b.tmps.getD 2 undef,b.tmps.getD 3 undef,b.tmps.getD 4 undef,b.tmps.getD 5 undef,b.tmps.getD 6 undef,b.tmps.getD 7 undef,b.tmps.getD 8 undef,b.tmps.getD 9 undef,b.tmps.getD 10 undef,b.tmps.getD 11 undef,b.tmps.getD 12 undef,b.tmps.getD 13 undef,b.tmps.getD 14 undef,b.tmps.getD 15 undef,b.tmps.getD 16 undef,b.tmps.getD 17 undef] from rfl,T,e7]at d;clear e7 T G N;generalize b.tmps.getD 1 undef=g1 at d;generalize b.tmps.getD 2 undef=g2 at d;generalize b.tmps.getD 4 undef=g4 at d;generalize b.tmps.getD 5 undef=g5 at d;generalize b.tmps.getD 6 undef=g6 at d;generalize b.tmps.getD 7 undef=g7 at d;generalize b.tmps.getD 8 undef=g8 at d;generalize b.tmps.getD 9 undef=g9 at d;generalize b.tmps.getD 10 undef=bM at d;generalize b.tmps.getD 11 undef=bB at d;generalize b.tmps.getD 12 undef=bV at d;generalize b.tmps.getD 13 undef=bU at d;generalize b.tmps.getD 14 undef=bG at d;generalize b.tmps.getD 15 undef=bC at d;generalize b.tmps.getD 16 undef=bL at d;generalize b.tmps.getD 17 undef=bE at d;rename_i Kq aT;refine aT _ _ ?_;rw[d];clear d y1 y2 y3 y4 ax B;have bS:∀W:World,(Instr.makeMap 98 none).run prog W=.ok (.map (some W.heap.size)) (W.alloc (.map #[] 0)):=fun _=>rfl;have a9:yK (fun i=>i=gf) u (u.setCell (gf,196) (.map (some u.heap.size))):=yK.setCell (F:=fun i=>i=gf) (p:=⟨gf,196,none⟩) rfl _;have ab:(u.setCell (gf,196) (.map (some u.heap.size))).heap.size=u.heap.size:=by simp[World.setCell]
  have ao:(u.setCell (gf,196) (.map (some u.heap.size))).heap[gf]?=some (.cells (fsR (.pointer (some a)) (m,()) s.fo rv nv (.map (some u.heap.size)) (.map (some C))) 101):=by rw[<-Tl (.pointer (some a)) (m,()) s.fo rv nv (.map (some bt))];exact zX _ _ 196 _ _ _ ba.o
  have az:((u.setCell (gf,196) (.map (some u.heap.size))).alloc (.map #[] 0)).heap[gf]?=some (.cells (fsR (.pointer (some a)) (m,()) s.fo rv nv (.map (some u.heap.size)) (.map (some C))) 101):=(ui _ _ (by rw[ab];exact bd)).trans ao;have av:Below (u.setCell (gf,196) (.map (some u.heap.size))).heap.size (u.setCell (gf,196) (.map (some u.heap.size))) ((u.setCell (gf,196) (.map (some u.heap.size))).alloc (.map #[] 0)):=zB.alloc zL _;have ae:MapL prog 3 ((u.setCell (gf,196) (.map (some u.heap.size))).alloc (.map #[] 0)) u.heap.size []:=by
   have:=MapL.made (P:=prog) (K:=3) (u.setCell (gf,196) (.map (some u.heap.size)))
   rwa [ab]at this
  have ay:yK (fun i=>i=gf) u ((u.setCell (gf,196) (.map (some u.heap.size))).alloc (.map #[] 0)):=a9.step (yK.of_below av);have aq:u.heap.size<((u.setCell (gf,196) (.map (some u.heap.size))).alloc (.map #[] 0)).heap.size:=ae.lt;have HU:Hid (yK (fun i=>i=gf) u ((u.setCell (gf,196) (.map (some u.heap.size))).alloc (.map #[] 0))/\u.heap.size<((u.setCell (gf,196) (.map (some u.heap.size))).alloc (.map #[] 0)).heap.size/\MapL prog 3 ((u.setCell (gf,196) (.map (some u.heap.size))).alloc (.map #[] 0)) u.heap.size []):=⟨ay,aq,ae⟩;have aV:=Lib.hid az;clear a9 ao az av ae ay aq ab;go_wp2;generalize ((u.setCell (gf,196) (.map (some u.heap.size))).alloc (.map #[] 0))=w6 at *
  go_ret;have S:yK F w w6:=bk.o.step (HU.o.1.mono fun i _ t=>by rw[t];exact f.o.2.2.2.1);have ad:w.heap.size<=u.heap.size:=R.o.2.2.1.size;have ac:∀i,(F i\/(w.heap.size<=i/\i<w6.heap.size))->F i\/w.heap.size<=i:=fun i t=>t.imp id fun h=>h.1;have aE:∀i,¬I i\/i≠gf:=fun i=>by
   by_cases t:i=gf
   .left;intro c;rcases R.o.2.1 i c with h|h
    .exact h.2 t
    .have:=z.o.1;omega
   .exact zu t
  refine⟨rfl,⟨⟨m,rv,nv,u.heap.size,C,E,[],I,aV.o,?_,fun i t=>?_,fun c=>?_,?_,zt f.o.2.2.1,fZ bl.o S ac,fZ bm.o S ac,iH bn.o S ac,HU.o.2.2,⟨te.nil _ _,fun y hy=>by cases hy⟩,zu ⟨ad,HU.o.2.1⟩,?_,fun c=>?_,?_,zt f.o.2.2.2.2.1,fun c=>?_⟩,zt f.o.2.2.2.1,H.o.1,fun i t=>?_,H.o.2.2.2.2,H.o.2.1,H.o.2.2.1,H.o.2.2.2.1⟩,S⟩
  .show uL w6 _ (runE s.dk (opsC s.sq (wrOf s.todo))) s.k I;rw[an.o];exact R.o.1.keep HU.o.1 fun i t c=>(aE i).elim (fun h=>h t) (fun h=>h c)
  .rcases R.o.2.1 i t with h|h
   .exact zt (f.o.1 i h.1)
   .exact zu ⟨h,zm (R.o.1.fin i t) HU.o.1.size⟩
  .rcases R.o.2.1 m c with h|h
   .exact f.o.2.1 h.1
   .have:=z.o.2.1;omega
  .exact (HU.o.1.block m (zm z.o.2.1 ad) X.o.1).trans R.o.2.2.2
  .have:=z.o.2.2;omega
  .rcases R.o.2.1 _ c with h|h
   .have:=f.o.2.2.2.2.2.2 _ (f.o.1 _ h.1);omega
   .have:=R.o.1.fin _ c;omega
  .have bq:u.heap[C]?=w.heap[C]? :=R.o.2.2.1.block C z.o.2.2 (fun c=>by
    rcases c with c|c
    .exact f.o.2.2.2.2.2.1 c.1
    .exact X.o.2.2 c)
   exact bc.o.of_block ((HU.o.1.block C (zm z.o.2.2 ad) X.o.2.1).trans bq)
  .rcases R.o.2.1 C c with h|h
   .exact f.o.2.2.2.2.2.1 h.1
   .have:=z.o.2.2;omega
  .rcases t with h|h
   .exact zm (f.o.2.2.2.2.2.2 i h) S.size
   .exact h.2
