import Derived.Test.YtmanoiagchpelaaGreatDoorKA24
import Derived.Test.YtmanoiagchpelaaGreatDoorKA29
set_option maxHeartbeats 0
set_option linter.all false
set_option maxRecDepth 100000
namespace Go.Proofs.YtmanoiagchpelaaGreatDoor
open Go.Proofs.Tryz Go.RowKit
variable {B cn g gd gf gn gp gt n:Nat} {D:List Int} {E:List Nd} {F T:Nat->Prop} {K:Act->World->Prop} {P:Program} {Q:Exit->Act->World->Prop} {a:Addr} {c:Array Value} {done l pl:List (Int×Value)} {fp gv rv v:Value} {fr:Nat×Nat} {o:Oper} {s:Fs} {t:TypeId} {w w':World} {x:Tx} {y:Int×Value} {α:Type}
def dfF (w:World) (gt gp n:Nat) (v:Value) (D:List Int) (i:Nat) (u:Value) (W:World):Prop:=
 if i=2 then u=.pointer (some ⟨gt,196,none⟩) else if i=3 then u=.map (some gp) else if i=4 then u=.int .i64 n else if i=5 then u=v else if i=6 then sJ W w.heap.size u D else u=.pointer (some ⟨gt,0,none⟩)
theorem QN (j) (u) (W W' : World) (b : Below W W W') (h:dfF w gt gp n v D j u W):dfF w gt gp n v D j u W':=by
 unfold dfF at h ⊢;by_cases c:j=2
 .rw[ze c]at h ⊢;exact h
 rw[zb c]at h ⊢;clear c;by_cases c:j=3
 .rw[ze c]at h ⊢;exact h
 rw[zb c]at h ⊢;clear c;by_cases c:j=4
 .rw[ze c]at h ⊢;exact h
 rw[zb c]at h ⊢;clear c;by_cases c:j=5
 .rw[ze c]at h ⊢;exact h
 rw[zb c]at h ⊢;clear c;by_cases c:j=6
 .rw[ze c]at h ⊢;exact Z9 h fun g _ _ a=>b.block g (xR a)
 rw[zb c]at h ⊢;exact h
theorem Wk {w0:World} {F1:Nat->Prop} (hf:FsAt w0 gf s F1 a) (hb:Below w0 w0 w) (h:TxAt w w0 F gt (gf,()) x T)
 (n) (hn:n<s.k) (v) (D) (hv:vQ w v D) (hD:D.length=64) (an:x.put.length<900):
 Calls prog 160 #[(gt,()),.int .i64 n,v] w
  (fun e w'=>e=.returned (.tuple #[])/\uc w0 F gt (gf,()) {x with put:=if eqB (secE s n) D=true then x.put else putZ x.put n D} T w w'):=by
 obtain⟨rv,gn,cn,gd,Y,gv,E,pl,W⟩:=h.lies;obtain⟨c0,z,M,C,p,U,L,B⟩:=rt W.row;have H:=za h;have HL:=za W;have al:=za hb;have HV:=za hv;have V:=za (KN (hf.below hb) n hn);have y:=za (gV hf n hn);have a6:=za hf.k1;have aN:(n:Int)<1000:=by have:=hf.k1;omega
 have J:Hid (pl.length<900):=by show _;rw[W.secs.len];exact an
 clear h W hf hb hv an;obtain⟨S,HS⟩:=zD (secE s n);rw[HS.o]at V y ⊢;obtain⟨b,Hb⟩:=zD (eqB S D);rw[Hb.o];go_enter func160,ntmps160;go_wp2_with fail
 refine V.o.mono ?_;rintro e w1 ⟨v1,rfl,t⟩;have O:=za t.below;have aj:=za t.at;clear t;have G:=za (V1 v1 v S D w1 aj.o (wh.below HV.o O.o) (by rw[y.o,hD]) (by rw[y.o];omega));rw[Hb.o]at G;go_wp2_with fail
 refine G.o.mono ?_;rintro e w2 ⟨rfl,K⟩;have l:=za (zf O.o K);clear K;cases b with
 | true=>
  go_wp2
  go_end0
  exact⟨rfl,uc.same H.o l.o⟩
 | false=>
  have Q:=za (HL.o.below l.o);have am:=za (H.o.below l.o);have ao:Hid (vQ w2 v D):=wh.below HV.o l.o;have ab:=za l.o.size;clear c0 z M C p U L B
  go_upto_region 2 with fail
  refine Gf (by kernel_rfl) (by kernel_rfl) (fun u u'=>Below u u u') (zB.drew) (fun u u' h1 h2=>zf h1 h2) 28 (fun i=>i+21) (dfF w2 gt Y n v D) (fun _ _=>False)
   (fun k u=>(k=0/\u=.pointer (some ⟨gt,0,none⟩))\/(k=1/\u=.int .i64 (n:Int))\/(k=2/\u=v)) QN (fun _ _ f=>f.elim) (fun i j a8=>by omega) (fun i k u hk=>by rcases hk with⟨rfl,_⟩|⟨rfl,_⟩|⟨rfl,_⟩<;>omega) 7 (by kernel_rfl) (by kernel_rfl) ⟨rfl,rfl,fun k u hk=>?_⟩ ?_ ?_
  .rcases hk with⟨rfl,rfl⟩|⟨rfl,rfl⟩|⟨rfl,rfl⟩<;>rfl
  .intro Dn b u d i o ac c ar m;have ap:=d.old 0 _ (zr ⟨rfl,rfl⟩);have ai:=d.old 1 _ (zu (zr ⟨rfl,rfl⟩));have af:=d.old 2 _ (zu (zu ⟨rfl,rfl⟩))
   match i,ac,c,ar,m with
   | 0,_,c,_,m=>
    simp only[zk,zw]at c;subst c;exact qD (.tmp 0) rfl ⟨_,rfl,zB,ap,fun _ f=>f.elim⟩
   | 1,_,c,_,m=>
    simp only[zk,zl,zw]at c;subst c;have e0:=d.fact 0 (m ⟨0,.data⟩ (by simp) rfl);exact mw (.tmp 21) rfl ⟨gt,0,none⟩ e0 ⟨_,rfl,zB,rfl,fun _ f=>f.elim⟩
   | 2,_,c,_,m=>
    simp only[zk,zl,zw]at c;subst c;have e1:=d.fact 1 (m ⟨1,.data⟩ (by simp) rfl);exact sV (v:=.pointer (some ⟨gt,196,none⟩)) (w':=u) (by unfold execOp;simp only[Act.eval];rw[show b.tmps.getD 22 undef=_ from e1];simp[go_sem]) ⟨_,rfl,zB,rfl,fun _ f=>f.elim⟩
   | 3,_,c,_,m=>
    simp only[zk,zl,zw]at c;subst c;have e2:=d.fact 2 (m ⟨2,.data⟩ (by simp) rfl);obtain⟨_,_,_,_,p,_⟩:=rt (wy d.b Q.o.row);exact sV (v:=.map (some Y)) (w':=u) (by unfold execOp;simp only[Act.eval];rw[show b.tmps.getD 23 undef=_ from e2];simp[go_sem,p]) ⟨_,rfl,zB,rfl,fun _ f=>f.elim⟩
   | 4,_,c,_,m=>
    simp only[zk,zl,zw]at c;subst c;exact qD (.tmp 1) rfl ⟨_,rfl,zB,ai,fun _ f=>f.elim⟩
   | 5,_,c,_,m=>
    simp only[zk,zl,zw]at c;subst c;exact qD (.tmp 2) rfl ⟨_,rfl,zB,af,fun _ f=>f.elim⟩
   | 6,_,c,_,m=>
    simp only[zk,zl,zw]at c;subst c;have e5:b.tmps.getD 26 undef=v:=d.fact 5 (m ⟨5,.data⟩ (by simp) rfl);refine jn 134 #[.tmp 26] #[56] rfl (fun _ _=>by kernel_rfl) #[v] (by simp only[uN,yF,vY,Act.eval];rw[e5];rfl) (fun X w'=>lF D u X w')
     ((Zt v D u (wh.below ao.o d.b) (by omega) (by omega)).mono fun e w' ⟨X,he,x1⟩=>⟨X,he,x1⟩) ?_
    rintro X w' ⟨g,ak,aa,q1,q2,q3,q4,q5⟩;exact⟨_,rfl,q5,⟨g,ak,aa,by rw[q1,hD],hD,by rw[<-hD];exact q2.2,zt d.b.size q2.1,q3,by rw[<-hD];exact q4⟩,fun _ f=>f.elim⟩
  .intro Dn b u d q o c;simp only[zk,zl,zw]at c;subst c;have e3:b.tmps.getD 24 undef=.map (some Y):=d.fact 3 (q 3 (by omega));have e4:b.tmps.getD 25 undef=.int .i64 n:=d.fact 4 (q 4 (by omega));have e6:sJ u w2 (b.tmps.getD 27 undef) D:=d.fact 6 (q 6 (by omega));have A:=Q.o.below d.b;generalize ah:b.tmps.getD 27 undef=u6 at e6;obtain⟨w6,N,ae,Z⟩:=A.puts.store intT mz (by have:=J.o;omega) (k:=(n:Int)) (by unfold InZ;omega) u6;refine JC (w':=w6) (by unfold execOp;simp only[Act.eval];rw[e3,e4,ah];simp[N,Result.andThen]) ?_;have I:yQ (fun i=>i=Y) u w6:=yQ.grown Z.grown (fun r hr=>by injection hr with hr;exact hr.symm);have P:=zf l.o d.b;refine⟨d.dfs,.tuple #[],(by simp[results,results160,go_sem]),rfl,T,?_,fun _ R=>zr R,(yQ.of_below P).step (I.mono fun i _ R=>by rw[R];exact HL.o.tp),fun _ R=>R⟩;rw[zb (by decide)];exact A.putMap (am.o.below d.b) (n:Int) _ D (e6.mono (zt al.o.size ab.o)) I ae (by have:=J.o;rw[<-HL.o.secs.len];omega)
def uR {α:Type} (t p:List (Int×α)):List (Int×α):=p.foldl (fun t y=>putZ t y.1 y.2) t
theorem Wy {α:Type} {a b:Int} (j:a≠b) (x y:α):∀z:List (Int×α),putZ (putZ z a x) b y=putZ (putZ z b y) a x
 | []=>by
  simp only[putZ];by_cases h:b<a
  .rw[ze h,zb (by omega),zb j]
  .rw[zb h,zb (yA j),ze (by omega)]
 | c::z=>by
  have i:=Wy j x y z;simp only[putZ];by_cases f:a<c.1
  .rw[ze f];by_cases d:b<c.1
   .rw[ze d];simp only[putZ];by_cases h:b<a
    .rw[ze h,zb (by omega),zb j,ze f]
    .rw[zb h,zb (yA j),ze d,ze (by omega)]
   .rw[zb d];by_cases e:b=c.1
    .rw[ze e];simp only[putZ];rw[zb (by omega),zb (yA j),zb d,ze e,ze (by omega)]
    .rw[zb e];simp only[putZ];rw[zb (by omega),zb (yA j),zb d,zb e,ze f]
  .rw[zb f];by_cases g:a=c.1
   .rw[ze g];by_cases d:b<c.1
    .rw[ze d];simp only[putZ];rw[ze (by omega),zb (by omega),zb j,zb f,ze g]
    .rw[zb d,zb (by omega)];simp only[putZ];rw[zb (by omega),zb (by omega),zb f,ze g]
   .rw[zb g];by_cases d:b<c.1
    .rw[ze d];simp only[putZ];rw[ze d,zb (by omega),zb j,zb f,zb g]
    .rw[zb d];by_cases e:b=c.1
     .rw[ze e];simp only[putZ];rw[zb d,ze e,zb (by omega),zb (by omega)]
     .rw[zb e];simp only[putZ];rw[zb d,zb e,zb f,zb g,i]
theorem WF {α:Type}:∀{l:List (Int×α)},(l.map (·.1)).Nodup->∀{x y:Int×α},x∈l->y∈l->x.1=y.1->x=y
 | [],_,x,y,b,_,_=>by cases b
 | c::l,d,x,y,b,a,h=>by
  rw[yF,vJ]at d;rcases yD.1 b with b|b
  .rcases yD.1 a with a|a
   .rw[b,a]
   .rw[b]at h;exact zY (show c.1∈l.map (·.1) from zU.2 ⟨y,a,h.symm⟩) d.1
  .rcases yD.1 a with a|a
   .rw[a]at h;exact zY (show c.1∈l.map (·.1) from zU.2 ⟨x,b,h⟩) d.1
   .exact WF d.2 b a h
theorem IE {t p q:List (Int×α)} (c:p.Perm q) (d:(p.map (·.1)).Nodup):uR t p=uR t q:=by
 refine c.foldl_eq' (fun x b y a z=>?_) t;by_cases h:x.1=y.1
 .have:=WF d b a h;subst this;rfl
 .exact Wy (fun e=>h (by simpa using e)) _ _ _
theorem K7 (t:List (Int×α)):∀p:List (Int×α),(uR t p).length<=t.length+p.length:=fun p=>by
 unfold uR
 induction p generalizing t with
 | nil=>simp
 | cons y p a=>
  have c:=a (putZ t y.1 y.2);have b:=oy y.1 y.2 t;rw[wl,yx];omega
def dfK (s:Fs) (b:List Int) (put:List (Int×List Int)):Nat->List (Int×List Int)
 | 0=>put
 | j+1=>if eqB (secE s (1+j)) (sec b j)=true then dfK s b put j else putZ (dfK s b put j) ((1+j:Nat):Int) (sec b j)
def dfQ (s:Fs) (q:List Int) (put:List (Int×List Int)):List (Int×List Int):=if eqB (secE s 4) q=true then put else putZ put ((4:Nat):Int) q
def tE (x:Tx) (s:Fs):List (Int×List Int):=dfQ s (sA x.rows.length x.rows) (dfK s (uH x.fo) x.put 3)
theorem ZN (s:Fs) (b:List Int) (put:List (Int×List Int)):∀j,(dfK s b put j).length<=put.length+j
 | 0=>zL
 | j+1=>by
  have a:=ZN s b put j;unfold dfK;split
  .omega
  .have:=oy ((1+j:Nat):Int) (sec b j) (dfK s b put j);omega
theorem gB (s:Fs) (q:List Int) (put:List (Int×List Int)):(dfQ s q put).length<=put.length+1:=by
 unfold dfQ;split
 .omega
 .exact oy _ _ _
theorem Mr (d n:Value) (fo m:Fo) (rv o p hv:Value):((fsR d n fo rv o p hv).toList.take 2++(encF m).toList++(fsR d n fo rv o p hv).toList.drop (2+(encF m).size)).toArray=fsR d n m rv o p hv:=by
 apply xa;intro i;have c:(encF m).toList.length=192:=by simpa using uj m
 have a:(fsR d n fo rv o p hv).toList.length=198:=by simpa using jG d n fo rv o p hv
 have f:∀j,(fsR d n fo rv o p hv).toList[j]?=(fsR d n fo rv o p hv)[j]? :=fun j=>zO;rw[xM,uj];by_cases k:i<2
 .rw[zP,zX (by rw[zj,a];omega),zI,ze k,f,lV _ _ _ _ _ _ _ _ (by omega),lV _ _ _ _ _ _ _ _ (by omega)];unfold lR;by_cases b:i=0
  .rw[ze b,ze b]
  .rw[zb b,zb b,ze (by omega),ze (by omega)]
 .by_cases g:i<194
  .rw[zP,zy (by rw[zj,a];omega),zX (by rw[zj,a,c];omega),zj,a,zO,show i-min 2 198=i-2 by omega];have:=hQ d n m rv o p hv (i-2) (by rw[uj];omega);rw[show 2+(i-2)=i by omega]at this;exact this.symm
  .rw[zP,zy (by rw[zj,a];omega),zy (by rw[zj,a,c];omega),yw,zj,a,c,f];rw[show 2+192+(i-min 2 198-192)=i by omega];by_cases e:i<198
   .rw[lV _ _ _ _ _ _ _ _ e,lV _ _ _ _ _ _ _ _ e];unfold lR;have l:¬i=0:=(by omega);have h:¬i=1:=(by omega);simp only[l,h,g,vX]
   .rw[yd (by rw[jG];omega),yd (by rw[jG];omega)]
theorem fH (d c:Value) (fo:Fo) (rv e f g:Value) (i:Nat) (_h:194<=i) (u:Value) (h:i<198):(fsR d c fo rv e f g).setIfInBounds i u=Array.ofFn (n:=198) fun j=>if j.val=i then u else lR d c fo rv e f g j.val:=by
 apply xa;intro j;rw[yM,jG];by_cases b:i=j
 .rw[ze b,ze (by omega)];subst b;simp[h]
 .rw[zb b];by_cases a:j<198
  .rw[lV _ _ _ _ _ _ _ _ a];simp[a,yA b]
  .rw[yd (by rw[jG];omega),yd (by simp;omega)]
theorem Qn (d a:Value) (fo:Fo) (rv b c hv u:Value):(fsR d a fo rv b c hv).setIfInBounds 194 u=fsR d a fo u b c hv:=by
 rw[fH _ _ _ _ _ _ _ 194 (by omega) u (by omega)];unfold fsR
 congr 1
 funext j
 unfold lR;by_cases h:j.val=194
 .simp[h]
 .simp[h]
theorem OK (d a:Value) (fo:Fo) (rv c b hv u:Value):(fsR d a fo rv c b hv).setIfInBounds 195 u=fsR d a fo rv u b hv:=by
 rw[fH _ _ _ _ _ _ _ 195 (by omega) u (by omega)];unfold fsR
 congr 1
 funext j
 unfold lR;by_cases h:j.val=195
 .simp[h]
 .simp[h]
theorem uS.without {d:Value} {st:Dk} {k:Nat} {FD:Nat->Prop} (h:uS w d st k FD) (I:w.heap[g]?=some (.cells c t fr)) (K:t≠150) (J:t≠5) (M:t≠152):uS w d st k (fun i=>FD i/\i≠g):=by obtain⟨p,q,y,F,E,L,rfl,a⟩:=h;refine⟨p,q,y,F,E,L,rfl,{a with fd:=⟨a.fd,tC a.hd I (yA K)⟩,fs:=⟨a.fs,tC a.hs I (yA J)⟩,fn:=⟨a.fn,tC a.hn I (yA J)⟩,fw:=fun b j=>⟨a.fw b j,fun G=>qb a.own I (yA M) (by rw[j,G])⟩,ent:=?_,fin:=fun i x=>a.fin i x.1}⟩;intro i n v B;obtain⟨r,D,H,s,e,f,z,u,A,C,m,l,o⟩:=a.ent i n v B;exact⟨r,D,H,s,e,f,z,u,⟨A,tC l I (yA J)⟩,C,m,l,o⟩
theorem RX {gl:Nat} {sq:Int} (h:w.heap[gl]?=some (.cells (logR a sq) 198)):
 Calls prog 161 #[(gl,())] w (fun e w'=>e=.returned (30:Int)/\w=w'):=by
 have b:w.cell? (gl,2)=some (.int .i64 32):=wM _ _ 2 _ _ _ h;clear h;go_enter func161,ntmps161;go_wp2;go_ret;simp
theorem Yk {_base _c:Nat} {cur:Array Value} (f:D.length=n) (h:w.heap[g]?=some (.cells cur t)) (i:cur.toList.take n=u8s D) (o m e:Nat) (k:o+m<=n):vQ w (g,o,m,e) ((D.drop o).take m):=by
 have a:((D.drop o).take m).length=m:=by rw[zj,yB,f];omega
 refine⟨by rw[uo,a,uq],zu ⟨g,o,e,by rw[a],fun j x c=>?_⟩⟩;have b:j<m:=by
  have:=(zJ.1 c).1
  rwa [uo,a]at this
 rw[zC h,<-zO];have d:(cur.toList.take n)[o+j]?=(u8s D)[o+j]? :=by rw[i]
 rw[zI,ze (by omega)]at d;rw[d];rw[oV,zI,ze b,mL,yw]at c;exact c
theorem qs.not_cells {K:TypeId} {b r:Nat} {cnt:Nat} (h:qs P K w b r l done cnt) (z:w.heap[g]?=some (.cells c t fr)):g≠r:=by rintro rfl;obtain⟨p,m,s,n,i,⟨q,e,d,f,x,o,y,u,j,a,k⟩,v⟩:=h;rw[z]at a;injection a with a;cases a
theorem NS {β:Type}:∀{pl:List (Int×α)} {put:List (Int×β)} (d:β),pl.map (·.1)=put.map (·.1)->so pl->pl.map (fun y=>(y.1,(getZ put y.1).getD d))=put:=fun {pl put} d a g=>by
 have c:so put:=by have b:(pl.map (·.1)).Pairwise (· < ·):=xW.2 g;rw[a]at b;exact xW.1 b
 have e:pl.map (fun y=>(y.1,(getZ put y.1).getD d))=(pl.map (·.1)).map (fun k=>(k,(getZ put k).getD d)):=by rw[vr];rfl
 rw[e,a,vr]
 conv=>rhs;rw[<-List.map_id put]
 refine xY fun y f=>?_;show (y.1,(getZ put y.1).getD d)=y;rw[mQ c (k:=y.1) (v:=y.2) f];rfl
def kpF (gt gf:Nat) (A:Array Value) (rv nv:Value) (i:Nat) (v:Value):Prop:=
 if i=5 then v=.pointer (some ⟨gt,1,none⟩) else if i=6 then v=.agg A else if i=9 then v=.pointer (some ⟨gt,193,none⟩) else if i=10 then v=rv else if i=13 then v=.pointer (some ⟨gt,194,none⟩) else if i=14 then v=nv
 else if i=16 then v=.pointer (some ⟨gf,2,none⟩) else if i=19 then v=.pointer (some ⟨gf,194,none⟩) else if i=22 then v=.pointer (some ⟨gf,195,none⟩) else if i=17\/i=20\/i=23 then v=undef
 else if i=0\/i=1\/i=2\/i=15\/i=18\/i=21 then v=.pointer (some ⟨gf,0,none⟩) else v=.pointer (some ⟨gt,0,none⟩)
theorem Hi {a:Act} (m:TypeId) (x y:Operand) (u:o.op=.store m x y)
 (g k:Nat) (q:Option Addr) (n c:Nat) (v:a.eval x=.pointer (some (g,k))) (z:a.eval y=.slice q n c) (r:(P.info? m).map (·.size)=some 1)
 (l:Array Value) (t:TypeId) (s:w.heap[g]?=some (.cells l t)) (p:k<l.size)
 (h:K (a.put o.dst undef) (w.setCell (g,k) (q,n,c))):o.wp P a w K Q:=by
 have f:w.cell? (g,k)=some l[k]:=by rw[zC s];exact xL p
 have d:w.frozen? (g,k)=false:=zF s;cases b:P.info? m with
 | none=>simp[b]at r
 | some i=>
  have e:i.size=1:=by simpa[b]using r
  unfold Oper.wp execOp;simp only[u,v,z];have j:(sizeOf m).run P w=.ok 1 w:=by simp[sizeOf,typeInfo,b,e]
  simp[go_sem,j,f,d,Result.andThen];exact h
theorem tu.drop {w:World} {B:Nat} {k:Int}:∀{pl} {l},tu w B pl l->tu w B (delZ pl k) (delZ l k)
 | [],[],_=>tu.nil _ _
 | [],y::l,h=>by have:=h.len;simp at this
 | x::pl,[],h=>by have:=h.len;simp at this
 | x::pl,y::l,h=>by
  obtain⟨b,c,d⟩:=h.tail;have a:=tu.drop (k:=k) d;unfold delZ at a ⊢;rw[vo,vo,b];split
  .exact tu.cons b c a
  .exact a
theorem QO (l:List (Int×α)) (k):(delZ l k).length<=l.length:=vh _ _
theorem uV.nodeAt (h:uV w B F T gt fp x rv gn cn gd gp gv E pl) (S:x.nodes.length=32) (i) (V:i<32) (X) (U:x.nodes[i]?=some X):
 ∃yq yn yc,w.cell? ⟨gn,i*8,none⟩=some (.int .i64 X.k)/\w.cell? ⟨gn,i*8+1,none⟩=some (.int .i64 X.m)/\w.cell? ⟨gn,i*8+2,none⟩=some (.int .i64 X.u)/\w.cell? ⟨gn,i*8+3,none⟩=some (.int .i64 X.g) /\
  w.cell? ⟨gn,i*8+4,none⟩=some (.int .i64 X.s)/\w.cell? ⟨gn,i*8+5,none⟩=some (.int .i64 X.l)/\w.cell? ⟨gn,i*8+6,none⟩=some (.int .i64 X.up)/\w.cell? ⟨gn,i*8+7,none⟩=some (.slice yq yn yc) /\
  Out (fun i=>F i\/T i) w (fun w'=>vT w' (yq,yn,yc) X.P):=by
 have f:E.length=32:=by rw[h.nds.1];exact S
 have p:wh w (.slice (some ⟨gn,0,none⟩) 32 cn) 8 E.length (uG E):=by rw[f];exact wh.of_owns h.own
 obtain⟨Q,I,j,D⟩:=jT p;rw[f]at j D;injection j with c _ a;subst c a;obtain⟨g,o,b,R,O⟩:=D.o (by omega);injection b with b;injection b with c a;subst c a;have e:i<E.length:=by omega
 have d:i<x.nodes.length:=by omega
 obtain⟨q,c,a,z,A,r,t,C⟩:=mN O i e;have n:=h.nds.2 i e d;have y:x.nodes[i]=X:=by rw[zh d]at U;injection U
 rw[y]at n;obtain⟨G,H,L,N,M,J,K,v⟩:=n;rw[G]at q;rw[H]at c;rw[L]at a;rw[N]at z;rw[M]at A;rw[J]at r;rw[K]at t;simp only[yO]at q c a z A r t C;exact⟨_,_,_,q,c,a,z,A,r,t,C,v⟩
def gonS (s:Nat->Bool) (g:List Int):Nat->Bool:=g.foldl (fun s p=>del s p.toNat) s
def gonP (put:List (Int×List Int)) (g:List Int):List (Int×List Int):=g.foldl (fun t p=>delZ t p) put
theorem Qe (g):∀put,(gonP put g).length<=put.length:=by
 unfold gonP
 induction g with
 | nil=>intro put;exact zL
 | cons p g a=>intro put;rw[wl];exact zt (a _) (QO _ _)
def rU (X:Pn):List Int:=rV X.k X.m X.u X.g X.s X.l X.up X.P
def ZC (X:Pn):Int:=vL X.k X.m X.u X.g X.s X.l X.up X.P
def atL (L:List (Option Value)) (i:Nat) (v:Value):Prop:=match L[i]? with|some (some x)=>v=x|_=>True
theorem QW (l) (j:Nat):(byts l)[j]?=(u8s l)[j]? :=by simp[byts,u8s]
theorem Wt {l:List Int} (h:w.heap[g]?=some (.cells (byts l) t)) (j) (y) (b:(u8s l)[j]?=some y):w.cell? ((⟨g,0,none⟩:Addr).add j)=some y:=by
 have a:(⟨g,0,none⟩:Addr).add j=⟨g,j,none⟩:=by unfold Addr.add;split<;>simp_all
 rw[a,zC h,QW,b]
theorem PX {B':Nat} {xs:List Value} (h:w.ownsRow B 5 1 v (32+32) xs) (j:D.length=64) (k:u8s D=xs) (hB:B'<=B):sJ w B' v D:=by
 obtain⟨_,⟨_,i⟩|⟨g,c,b,rfl,e,d,a,_,_,f⟩⟩:=h
 .cases i
 .exact⟨g,c,b,rfl,j,a,zt hB e,d,by rw[k];exact f⟩
theorem GK {a:Act} (s x) (t) (p:o.op=Op.call {callee:=Callee.builtin Builtin.append,args:=#[s,x],argTypes:=#[t,t]})
 (e) (i) (z) (size bytes) (q:P.underlying t=some (.slice e)) (r:P.info? e=some i) (v:i.zero=some z) (y:i.size=size) (A:i.bytes=bytes) (B:z.cells.size=size) (C:0<size)
 (b) (n cap) (olds) (D:a.eval s=.slice (some b) n cap) (l:olds.length=n*size) (h:∀j u,olds[j]?=some u->w.cell? (b.add j)=some u)
 (ad) (m c) (news) (E:a.eval x=.slice (some ad) m c) (F:news.length=m*size) (G:∀j u,news[j]?=some u->w.cell? (ad.add j)=some u)
 (k:cap<n+m) (H:n+m<=maxLen) (b2:(n+m)*bytes<=140737488355328)
 (I:∀v' w',w'.ownsRow w e size v' (n+m) (olds++news)->w.grownBy w' none->K (a.put o.dst v') w'):o.wp P a w K Q:=by
 obtain⟨v',w',d,g,f⟩:=run_append_arg_grows (P:=P) w t o.type e i z size bytes q r v y A B C b n cap olds l h ad m c news F G k H b2;unfold Oper.wp;simp[execOp,p,resolve,invoke,builtin,D,E,d,Result.andThen];exact I v' w' g f
theorem uV.withFo (h:uV w B F T gt fp x rv gn cn gd gp gv E pl) (n:T gt) (fo)
 (m:yQ (fun i=>i=gt) w w') (o:w'.heap[gt]?=some (.cells (txR fp fo rv (.slice (some ⟨gn,0,none⟩) 32 cn) (.map (some gd)) (.map (some gp)) gv x.full x.fake) 118)):uV w' B F T gt fp {x with fo:=fo} rv gn cn gd gp gv E pl:=by
 have c:yQ T w w':=m.mono fun i _ e=>by rw[e];exact n
 have d:∀b,b<w.heap.size->b≠gt->w'.heap[b]?=w.heap[b]? :=fun b k j=>m.block b k j;refine⟨o,lJ h.rows c (fun _ e=>zr e),?_,qS h.nds c (fun _ e=>zr e),?_,?_,?_,h.ne,?_,h.tn,h.td,h.tp,h.tg⟩
 .exact tw h.own fun b a=>d b (h.own.lt b a).2 (rH h.own h.row (by decide) b a)
 .exact h.dirt.of_block (d gd h.dirt.lt (yA (tQ h.row h.dirt)))
 .exact h.puts.of_block (d gp h.puts.lt (yA (tQ h.row h.puts)))
 .exact h.secs.keep fun g l _ f=>d g (xR f) (tC f h.row (by decide))
 .exact tw h.gone fun b a=>d b (h.gone.lt b a).2 (rH h.gone h.row (by decide) b a)
theorem uV.withPut {pl':List (Int×Value)} {l':List (Int×List Int)} (h:uV w B F T gt fp x rv gn cn gd gp gv E pl)
 (v:yQ (fun i=>i=gp) w w') (y:MapL prog 3 w' gp pl') (z:tu w' B pl' l'):uV w' B F T gt fp {x with put:=l'} rv gn cn gd gp gv E pl':=by
 have c:yQ T w w':=v.mono fun i _ d=>by rw[d];exact h.tp
 have e:∀b,b<w.heap.size->b≠gp->w'.heap[b]?=w.heap[b]? :=fun b n k=>v.block b n k;obtain⟨q,m,u,p,t,s,o⟩:=h.block;refine⟨(e gt (xR h.row) (tQ h.row h.puts)).trans h.row,lJ h.rows c (fun _ d=>zr d),?_,qS h.nds c (fun _ d=>zr d),?_,y,z,h.ne,?_,h.tn,h.td,h.tp,h.tg⟩
 .exact tw h.own fun b a=>e b (h.own.lt b a).2 (by injection a with a;rw[<-a];exact tQ m h.puts)
 .exact h.dirt.of_block (e gd h.dirt.lt h.ne)
 .refine tw h.gone fun b a=>e b (h.gone.lt b a).2 ?_;obtain⟨_,⟨j,_⟩|⟨g,r,l,j,_,f,_⟩⟩:=id h.gone
  .rw[j]at a;cases a
  .rw[j]at a;injection a with a;rw[<-a];exact tQ f h.puts
theorem OB (s) (g) (p):gonS s (g++[p])=del (gonS s g) p.toNat:=by unfold gonS;rw[xG];rfl
theorem OC (t) (g) (p):gonP t (g++[p])=delZ (gonP t g) p:=by unfold gonP;rw[xG];rfl
theorem WQ (f) (s t):hasF (hasF f s) t=hasF f t:=by
 unfold hasF
 congr 1
 funext k
 simp only;split<;>rfl
theorem KL (f):hasF f (f.hs 0)=f:=by
 unfold hasF;cases f with
 | mk b a=>
  congr 1
  funext k
  simp only;split
  .next h=>rw[h]
  .rfl
def qC (x:Tx) (j:Nat):Tx:={x with fo:=hasF x.fo (gonS (x.fo.hs 0) (x.gone.take j)),put:=gonP x.put (x.gone.take j)}
theorem L0 (x):qC x 0=x:=by unfold qC gonS gonP;rw[xH,ie,ie,KL]
theorem L1 (x) (j) (p) (b:x.gone[j]?=some p):qC x (j+1)={qC x j with fo:=hasF (qC x j).fo (del ((qC x j).fo.hs 0) p.toNat),put:=delZ (qC x j).put p}:=by
 have a:x.gone.take (j+1)=x.gone.take j++[p]:=by rw[sO,b];rfl
 unfold qC;rw[a,OB,OC];simp only[WQ];rfl
open Go.Shelf Go.Sort
def toJs (y:Int×Value):Js:=(Fin.ofNat 256 y.1.toNat,match y.2 with|.slice q n c=>(q,n,c)|_=>(none,0,0))
def jv (l:List (Int×Value)):List Value:=l.flatMap fun y=>[.int .i64 y.1,y.2]
def IsW (y:Int×Value):Prop:=(0<=y.1/\y.1<256)/\∃q n c,y.2=.slice q n c
theorem Rc (h:IsW y):encS (toJs y)=[.int .i64 y.1,y.2]:=by
 obtain⟨⟨d,b⟩,q,n,c,a⟩:=h;obtain⟨k,v⟩:=y;dsimp only at d b a;subst a;unfold encS toJs;dsimp only;rw[Fin.val_ofNat,vz (by omega)]
 congr 2
 omega
theorem JE (h:∀y∈l,IsW y):jv l=(l.map toJs).flatMap encS:=by
 unfold jv;rw[List.flatMap_map]
 induction l with
 | nil=>rfl
 | cons y l a=>rw[xo,xo,a (fun z b=>h z (yZ _ b)),Rc (h y xn)]
theorem V7 (h:IsW y):((toJs y).1.val)=y.1:=by obtain⟨⟨a,b⟩,_⟩:=h;unfold toJs;dsimp only;rw[Fin.val_ofNat,vz (by omega)];omega
theorem Pu {T:List Js} (s:so l) (r:∀y∈l,IsW y) (t:done.Perm l) (u:T.Perm (done.map toJs)) (w:T.Pairwise (fun a b=>a.1.val<=b.1.val)):T=l.map toJs:=by
 have c:=u.trans (t.map _);have j:(l.map toJs).Pairwise (fun a b=>a.1.val<=b.1.val):=by rw[xW];refine (List.Pairwise.and_mem.1 s).imp fun {a b} h=>?_;have m:=V7 (r a h.1);have g:=V7 (r b h.2.1);have p:=h.2.2;omega
 refine List.Perm.eq_of_pairwise (fun x y n i m g=>?_) w j c;obtain⟨a,e,rfl⟩:=zU.1 (c.mem_iff.1 n);obtain⟨b,f,rfl⟩:=zU.1 i;have o:=V7 (r a e);have q:=V7 (r b f);have d:a.1=b.1:=by omega
 have:=mQ s (k:=a.1) (v:=a.2) e;rw[d,mQ s (k:=b.1) (v:=b.2) f]at this;have  :=Prod.ext d (r8 this).symm;rw[this]
theorem MP (l) (k) (v):jv (l++[(k,v)])=jv l++[.int .i64 k,v]:=by unfold jv;rw[vt];rfl
def pP (tl:List (Int×Value)) (todo:List (Int×List Int)):List Jw:=List.zipWith (fun y z=>⟨y.1.toNat,y.2,z.2⟩) tl todo
theorem IH : ∀{tl} {todo},tl.length=todo.length->(∀y∈tl,IsW y)->nl (pP tl todo)=jv tl
 | [],[],_,_=>rfl
 | [],_::_,h,_=>by simp at h
 | _::_,[],h,_=>by simp at h
 | y::tl,z::todo,h,a=>by
  have c:=IH (tl:=tl) (todo:=todo) (by simpa using h) fun q b=>a q (yZ _ b);have d:=(a y xn).1;show nl (⟨y.1.toNat,y.2,z.2⟩::pP tl todo)=_;rw[show (⟨y.1.toNat,y.2,z.2⟩:Jw)::pP tl todo=[⟨y.1.toNat,y.2,z.2⟩]++pP tl todo from rfl,Gb,c];show _=[Value.int .i64 y.1,y.2]++jv tl
  congr 1
  show [Value.int .i64 (y.1.toNat:Int),y.2]=_;rw[show ((y.1.toNat:Nat):Int)=y.1 by omega]
theorem WN : ∀{tl} {todo},tl.map (·.1)=todo.map (·.1)->(pP tl todo).map jab=todo.map (fun y=>(y.1.toNat,y.2))
 | [],[],_=>rfl
 | [],_::_,h=>by simp at h
 | _::_,[],h=>by simp at h
 | y::tl,z::todo,h=>by simp only[yF,tX]at h;have a:=WN h.2;show jab ⟨y.1.toNat,y.2,z.2⟩::(pP tl todo).map jab=_;rw[a,yF];unfold jab;rw[h.1]
theorem Oo {tl:List (Int×Value)} {todo:List (Int×List Int)} (h:tl.length=todo.length):(pP tl todo).length=tl.length:=by unfold pP;rw[List.length_zipWith];omega
theorem WM {w:World} {B:Nat}:∀{tl} {todo},tu w B tl todo->(∀y∈tl,IsW y)->∀x∈pP tl todo,ni w B x
 | [],_,_,_,x,a=>by simp[pP]at a
 | _::_,[],h,_,x,a=>by simp[pP]at a
 | y::tl,z::todo,h,d,x,a=>by
  obtain⟨r,e,n⟩:=h.tail;rcases yD.1 (show x∈⟨y.1.toNat,y.2,z.2⟩::pP tl todo from a) with rfl|a
  .have p:=(d y xn).1;obtain⟨g,b,c,j,o,k,m,l,f⟩:=e;exact⟨by show y.1.toNat<256;omega,o,g,b,c,j,⟨m,k⟩,l,f⟩
  .exact WM n (fun q i=>d q (yZ _ i)) x a
theorem WL {F:Nat->Prop}:∀{tl} {todo},(∀y∈tl,∀g,y.2.ownBlock=some g->¬F g)->∀x∈pP tl todo,∀q,x.v.ownBlock=some q->¬F q
 | [],_,_,x,a=>by simp[pP]at a
 | _::_,[],_,x,a=>by simp[pP]at a
 | y::tl,z::todo,h,x,a=>by
  rcases yD.1 (show x∈⟨y.1.toNat,y.2,z.2⟩::pP tl todo from a) with rfl|a
  .exact h y xn
  .exact WL (fun q b=>h q (yZ _ b)) x a
theorem wsInfo: (prog.info? 202).map (fun i=>(i.zero,i.size,i.bytes))=some (some (.agg #[(),.slice none 0 0]),2,32):=by kernel_rfl
theorem wsT: prog.underlying 146=some (.slice 202):=by kernel_rfl
theorem OE (h:FsAt w gf s F a) (hk:∀y∈s.todo,0<=y.1/\y.1<256) (hl:s.todo.length<=1000):
 Calls prog 91 #[(gf,())] w
  (fun e w'=>∃v E,e=.returned v/\pX w' w 0 v E/\(∀x∈E,∀q,x.v.ownBlock=some q->¬F q)/\E.map jab=s.todo.map (fun y=>(y.1.toNat,y.2))/\Below w w w'):=by
 obtain⟨⟨gl,rv,nv,bt,bh,E,D,FD,h1,h2,h3,h4,h5,h6,h7,h8,h9,aa,j,aN,a9,aA,aB,aC,aM⟩,a1,a2,a3,a4,a5,a6,a7⟩:=h;obtain⟨_,_,_,_,ab,_⟩:=nw h1;have HM:=za aa;have P:=za j.sec;have aT:=za j.out;have bn:=za (xR h1);have W:=j.len;have L:Hid (D.length<=1000):=by show _<=_;omega
 have k:Hid (∀y∈D,IsW y):=fun y hy=>by
  obtain⟨i,hi,rfl⟩:=uE.1 hy;have J:i<s.todo.length:=by omega
  have ah:D[i].1=s.todo[i].1:=by have:=zV (fun l=>l[i]?) j.sec.1;simp only[xF,zh hi,zh J,ks,zw]at this;exact this
  refine⟨by rw[ah];exact hk _ (zx J),?_⟩;obtain⟨g,bs,aY,hv,_⟩:=j.sec.2 i hi J;exact⟨_,_,_,hv⟩
 clear h1 h2 h3 h4 h5 h6 h7 h8 h9 aa j aN a9 aA aB aC aM a1 a2 a3 a4 a5 a6 a7 W;obtain⟨i0,am,Z,ar,aj⟩:=xy wsInfo;have aS:=za am;have aI:=za Z;have aE:=za ar;have aK:=za aj;clear am Z ar aj;go_enter func91,ntmps91;go_wp2_with (at_range;refine U7 _ rfl _ _ rfl 3 56 intT mz bt D rfl HM.o ?_;intro w4 ao aq bg)
 have aO:=za (xB zB aq zL (fun q H=>by cases H));have aF:=za ao;obtain⟨r0,bd⟩:=zD w.heap.size;have aP:=za HM.o.lt;clear ao aq ab;simp only[Act.put,zK,yi,yf];go_loopw [3] (fun ov wr=>∃(c:List (Int×Value)) (M:Nat),Hid (qs prog 3 wr bt w D c M)/\Hid (Below w w wr)/\Hid (wr.ownsRow (w.heap.size+1) 202 2 ov c.length (jv c))) (fun _ wr=>wr.rangeLeft bt w.heap.size);case atStart=>exact⟨[],D.length,aF,aO,⟨rfl,zr ⟨rfl,rfl⟩⟩⟩
 case round=>
  obtain⟨c,M,O,z,r⟩:=hrel;have ad:=O.o.left_eq;go_wp2_with (first
   | (at_next;refine UZ _ rfl _ rfl 3 intT bt _ D c M rfl O.o (fun hp=>?qd) (fun xk c' w' aw aQ A ai n d X Q aD bw=>?qm);(case' qm=>(have C:=za d;have ae:=za n;have bq:=za d.left_eq;have aR:=za X;obtain⟨q',n',N,ac⟩:=(k.o _ A).2;have ap:c'=Value.slice q' n' N:=ac;subst ap;have ay:=za (xB z.o Q z.o.size (fun q H=>by injection H with H;omega));have I:=za (tw r.o (fun b hb=>Q.block b (r.o.lt b hb).2 (fun S=>by injection S with S;have:=(r.o.lt b hb).1;omega)));have m:=za d.lt;clear ac aQ A ai n d X Q aD)))
   | (at_builtin;refine yI _ rfl _ _ 146 rfl (w.heap.size+1) 202 i0 (.agg #[(),.slice none 0 0]) 2 32 wsT aS.o aI.o aE.o aK.o rfl (by decide) _ c.length (jv c) rfl (tB I.o (zB.alloc zL _)) ⟨w'.heap.size,0,none⟩ 1 1 [.int .i64 xk,.slice q' n' N] rfl rfl (xE (cs:=#[.int .i64 xk,.slice q' n' N]) (t:=202) (fr:=(0,0)) (zT w' _)) (by simp[Value.oneCell']) (by unfold maxLen;have:=ae.o;have:=L.o;omega) (by have:=ae.o;have:=L.o;omega) (by have:=m.o;simp;omega) ?_;intro v5 w5 an p _))
  .have U:∀b,u3.ownBlock=some b->w.heap.size+1<=b:=fun b hb=>(I.o.lt b hb).1;have av:∀b,b<=w.heap.size->b<w'.heap.size->w5.heap[b]?=w'.heap[b]? :=fun b h1 h2=>(p.block b (by simp;omega) (fun S=>by have:=U b S.symm;omega)).trans (uk _ _ h2);have G:=C.o.of_block (av bt (by have:=aP.o;omega) C.o.map.lt) (av w zL m.o);refine⟨⟨_,aw,G,xB (ay.o.alloc ay.o.size _) p (by have:=m.o;simp;omega) (fun q H=>by have:=U q H;omega),?_⟩,by rw[G.left_eq,ad];exact aR.o⟩;show World.ownsRow _ _ _ _ _ _ _;rw[MP,zm];exact an
  .have B:∀y∈c,IsW y:=fun y hy=>k.o y (hp.mem_iff.1 hy);have R:=r.o;rw[JE B,<-yp (f:=toJs)]at R;have ag:=za (Pw (w.heap.size+1) u3 (c.map toJs) wr R (by rw[yp,hp.length_eq];have:=L.o;omega));have al:=za hp;clear hp B R ad;refine ag.o.mono ?_;rintro e w6 ⟨rfl,T,au,V,K,ax⟩;have ak:=Pu O.o.map.2.1 k.o al.o au V;have Y:=za (xB z.o ax z.o.size (fun q H=>by have:=(r.o.lt q H).1;omega));have u:=P.o.len;have HJ:Hid (pX w6 w 0 u3 (pP D s.todo)):=(by refine⟨?_,WM (P.o.keep fun g cc _ S=>Y.o.block g (xR S)) k.o⟩;rw[IH u k.o,Oo u,JE k.o];rw[ak,yp,al.o.length_eq]at K;exact mx K (by omega));clear au V K ax ak u;go_wp2;go_ret;exact⟨u3,_,rfl,HJ.o,WL aT.o,WN P.o.1,Y.o⟩
end Go.Proofs.YtmanoiagchpelaaGreatDoor
namespace Go.Proofs.YtmanoiagchpelaaGreatDoor
open Go.Proofs.Tryz Go.RowKit
variable {F F':Nat->Prop} {w w':World}
theorem ZJ {φ:World->Prop} (h:Out F w φ) (c:yQ F w w') (d:∀i,F' i->F i\/w.heap.size<=i):Out F' w' φ:=fun b a=>h b (c.trans a d)
theorem iY {E:List Nd} {L:List Pn} (h:tZ F w E L) (m:yQ F w w') (n:∀i,F' i->F i\/w.heap.size<=i):tZ F' w' E L:=
 ⟨h.1,fun i g e=>by obtain⟨b,l,c,f,a,d,j,k⟩:=h.2 i g e;exact⟨b,l,c,f,a,d,j,ZJ k m n⟩⟩
def wrOf (l:List (Int×List Int)):List Wr:=l.map fun y=>(y.1.toNat,y.2)
def mE (s:Fs):Fs:={s with dk:=runE s.dk (opsC s.sq (wrOf s.todo)),sq:=seqC s.sq (wrOf s.todo),todo:=[]}
def syL (gf gl:Nat):List (Option Value):=
 let t:Option Value:=some (.pointer (some ⟨gf,0,none⟩))
 [t,t,some (.pointer (some ⟨gf,1,none⟩)),some (gl,()),t,none,some (.int .i64 0),some (.int .i64 0)]
theorem Sn (d lg) (fo) (rv nv tv hv u):(fsR d lg fo rv nv tv hv).setIfInBounds 196 u=fsR d lg fo rv nv u hv:=by
 rw[fH _ _ _ _ _ _ _ 196 (by omega) u (by omega)];unfold fsR
 congr 1
 funext j
 unfold lR;by_cases h:j.val=196
 .simp[h]
 .simp[h]
theorem i9 {gf:Nat} {s:Fs} {a:Addr} (h:FsAt w gf s F a) (hg:ld s.k (wrOf s.todo)) (ah:∀y∈s.todo,0<=y.1/\y.1<256) (ai:0<=s.sq/\s.sq<=1000) (hW:s.dk.W.length<800000):
 Calls prog 45 #[(gf,())] w
  (fun e w'=>e=.returned ()/\FsAt w' gf (mE s) (fun i=>F i\/(w.heap.size<=i/\i<w'.heap.size)) a/\yQ F w w'):=by
 have aR:=za (fun (W:World) (hW:Below w w W)=>OE (h.below hW) ah (by have:=hg.l;unfold wrOf at this;rw[yp]at this;omega));obtain⟨⟨t,rv,nv,bt,H,E,tl,O,h1,h2,h3,h4,Y,h6,h7,h8,h9,aY,bn,be,aQ,aS,M,ap,aA⟩,a1,a2,a3,a4,a5,a6,a7⟩:=h;obtain⟨c0,c1,_,_,bx,_⟩:=nw h1;have a8:=h2.without h1 (by decide) (by decide) (by decide);have HD:=za a8;have aB:=za h1;have bo:=za Y;have av:=tC Y h1 (by decide);have aF:H≠gf:=fun c=>tQ h1 M c.symm;have Z:H≠t:=fun c=>tQ Y M c.symm;have X:Hid (t≠gf/\H≠gf/\H≠t):=⟨av,aF,Z⟩;have f:Hid ((∀i,O i->F i)/\¬O t/\F t/\F gf/\F H/\¬O H/\(∀i,F i->i<w.heap.size)):=⟨h3,h4,h6,a1,ap,aA,a3⟩;have bk:=za h7;have bl:=za h8;have bm:=za h9;have bb:=za M;have z:Hid (gf<w.heap.size/\t<w.heap.size/\H<w.heap.size):=⟨xR h1,xR Y,M.lt⟩;have G:Hid (s.nodes.length=32/\64<=s.k/\s.k<=256/\s.rows.length<=20/\s.held.length<=1000/\∀y∈s.held,0<=y.2/\y.2<=1000000):=⟨a2,a5,a6,a7,a4⟩;have HG:=za hg;have bf:=za ai;have aU:=za hW;obtain⟨V,an⟩:=zD (runE s.dk (opsC s.sq (wrOf s.todo)));clear h1 h2 h3 h4 Y h6 h7 h8 h9 aY bn be aQ aS M ap aA a1 a2 a3 a4 a5 a6 a7 a8 av aF Z hg ah ai hW c0;go_enter func45,ntmps45
 go_upto_region 1 with fail
 refine Io (by kernel_rfl) (by kernel_rfl) (fun D g u=>(D 6=true->D 3=true/\D 5=true/\∃I,uS u (.pointer (some a)) V s.k I/\(∀i,I i->(O i/\i≠gf)\/w.heap.size<=i)/\yQ (fun i=>(O i/\i≠gf)\/i=t) w u/\u.heap[t]?=some (.cells (logC a (seqC s.sq (wrOf s.todo))) 198)) /\
  (D 6=false->Below w w u/\(D 5=true->∃E,pX u w 0 (g 5) E/\(∀x∈E,∀q,x.v.ownBlock=some q->¬F q)/\E.map jab=wrOf s.todo)))
  18 (fun i=>if i<7 then 4+i else if i=7 then 3 else 1000+i) (atL (syL gf t)) (fun k v=>k=0/\v=.pointer (some ⟨gf,0,none⟩)) (fun i j bG=>?_) (fun i k v hk=>?_) (by kernel_rfl) ⟨rfl,rfl,fun k v hk=>?_,fun c=>by simp at c,fun _=>⟨zB.drew,fun c=>by simp at c⟩⟩ ?_ ?_
 .split<;>split<;>(try split)<;>(try split)<;>omega
 .obtain⟨rfl,_⟩:=hk;split<;>(try split)<;>omega
 .obtain⟨rfl,rfl⟩:=hk;rfl
 .intro D b u C i o m L A;have T:=C.old 0 _ ⟨rfl,rfl⟩;obtain⟨af,U⟩:=C.j;have hJ:∀n,n≠3->n≠5->n≠6->∀(g:Nat->Value),(∀k,k≠n->g k=b.tmps.getD (if k<7 then 4+k else if k=7 then 3 else 1000+k) undef)->(upd D n 6=true->upd D n 3=true/\upd D n 5=true/\∃I,uS u (.pointer (some a)) V s.k I/\(∀i,I i->(O i/\i≠gf)\/w.heap.size<=i)/\yQ (fun i=>(O i/\i≠gf)\/i=t) w u/\u.heap[t]?=some (.cells (logC a (seqC s.sq (wrOf s.todo))) 198)) /\
   (upd D n 6=false->Below w w u/\(upd D n 5=true->∃E,pX u w 0 (g 5) E/\(∀x∈E,∀q,x.v.ownBlock=some q->¬F q)/\E.map jab=wrOf s.todo)):=fun n h3 Y h6 g hg=>by
   rw[qy (yA h6),qy (yA h3),qy (yA Y)];refine⟨af,fun c=>?_⟩;obtain⟨J,q2⟩:=U c;refine⟨J,fun ag=>?_⟩;rw[hg 5 (yA Y)];exact q2 ag
  match i,m,L,A with
  | 0,m,L,A=>
   simp only[zk,zw]at m;subst m;exact qD (.tmp 0) rfl ⟨_,rfl,(fun c=>zY c (by decide)),T,fun g _ hg=>hJ 0 (by omega) (by omega) (by omega) g hg⟩
  | 1,m,L,A=>
   simp only[zk,zl,zw]at m;subst m;have e0:=C.fact 0 (A ⟨0,.data⟩ (by simp) rfl);exact mw (.tmp 4) rfl ⟨gf,0,none⟩ e0 ⟨_,rfl,(fun c=>zY c (by decide)),rfl,fun g _ hg=>hJ 1 (by omega) (by omega) (by omega) g hg⟩
  | 2,m,L,A=>
   simp only[zk,zl,zw]at m;subst m;have e1:=C.fact 1 (A ⟨1,.data⟩ (by simp) rfl);exact sV (v:=.pointer (some ⟨gf,1,none⟩)) (w':=u) (by unfold execOp;simp only[Act.eval];rw[show b.tmps.getD 5 undef=_ from e1];simp[go_sem]) ⟨_,rfl,(fun c=>zY c (by decide)),rfl,fun g _ hg=>hJ 2 (by omega) (by omega) (by omega) g hg⟩
  | 3,m,L,A=>
   simp only[zk,zl,zw]at m;subst m;have e2:=C.fact 2 (A ⟨2,.data⟩ (by simp) rfl);have Q:D 6=false:=by
    cases h6:D 6 with
    | false=>rfl
    | true=>have:=(af h6).1;rw[L]at this;cases this
   obtain⟨J,q2⟩:=U Q;have c:=(J.cell (p:=⟨gf,1,none⟩) z.o.1).trans c1;refine sV (v:=.pointer (some ⟨t,0,none⟩)) (w':=u) (by unfold execOp;simp only[Act.eval];rw[show b.tmps.getD 6 undef=_ from e2];simp[go_sem,c]) ⟨_,rfl,(fun c=>zY c (by decide)),rfl,fun g _ hg=>?_⟩;rw[qy (by omega:(6:Nat)≠3),qy (by omega:(5:Nat)≠3)];refine⟨fun c=>(by rw[Q]at c;cases c),fun _=>⟨J,fun ag=>?_⟩⟩;rw[hg 5 (by omega)];exact q2 ag
  | 4,m,L,A=>
   simp only[zk,zl,zw]at m;subst m;exact qD (.tmp 0) rfl ⟨_,rfl,(fun c=>zY c (by decide)),T,fun g _ hg=>hJ 4 (by omega) (by omega) (by omega) g hg⟩
  | 5,m,L,A=>
   simp only[zk,zl,zw]at m;subst m;have e4:=C.fact 4 (A ⟨4,.data⟩ (by simp) rfl);have Q:D 6=false:=by
    cases h6:D 6 with
    | false=>rfl
    | true=>have:=(af h6).2.1;rw[L]at this;cases this
   obtain⟨J,q2⟩:=U Q;refine jn 91 #[.tmp 8] #[25] rfl (fun _ _=>by kernel_rfl) #[(gf,())] (by simp only[uN,yF,vY,Act.eval];rw[show b.tmps.getD 8 undef=_ from e4];rfl) (fun v' w'=>∃E,pX w' u 0 v' E/\(∀x∈E,∀q,x.v.ownBlock=some q->¬F q)/\E.map jab=wrOf s.todo/\Below u u w')
    ((aR.o u J).mono fun e w' ⟨v,E,he,x1,x0,x2,x3⟩=>⟨v,he,E,x1,x0,x2,x3⟩) ?_
   rintro v' w' ⟨E,x1,x0,x2,x3⟩;refine⟨_,rfl,(fun c=>zY c (by decide)),trivial,fun g bq hg=>?_⟩;rw[qy (by omega:(6:Nat)≠5)];refine⟨fun c=>(by rw[Q]at c;cases c),fun _=>⟨zf J x3,fun _=>⟨E,?_,x0,x2⟩⟩⟩;rw[bq];exact⟨mx x1.1 J.size,x1.2⟩
  | 6,m,L,A=>
   simp only[zk,zl,zw]at m;subst m;have e3:=C.fact 3 (A ⟨3,.data⟩ (by simp) rfl);have d5:=A ⟨5,.data⟩ (by simp) rfl;have d3:=A ⟨3,.data⟩ (by simp) rfl;obtain⟨J,q2⟩:=U L;obtain⟨E,x1,x0,x2⟩:=q2 d5;have aE:pX u w 0 (b.tmps.getD 9 undef) E:=x1;have az:=wy J bo.o;have ba:CS s.k u a t (fun i=>O i/\i≠gf) s.dk s.sq (fun _=>False) u:=⟨_,HD.o.below J,fun _ r=>zr r,fun _ c=>c.elim,yQ.refl _ _,az⟩;have a9:=MF G.o.2.1 G.o.2.2.1 ba ⟨fun c=>f.o.2.1 c.1,xR az⟩ _ E aE (fun x hx q hq=>⟨fun c=>x0 x hx q hq (f.o.1 q c.1),fun c=>x0 x hx q hq (by rw[c];exact f.o.2.2.1)⟩) (fun q hq=>have h9:=(aE.1.lt q hq).1;⟨fun c=>zY (f.o.2.2.2.2.2.2 q (f.o.1 q c.1)) (xQ h9),fun c=>zY (f.o.2.2.2.2.2.2 q (by rw[c];exact f.o.2.2.1)) (xQ h9)⟩) (by rw[x2];exact HG.o) bf.o aU.o;rw[x2,an.o]at a9;refine jn 90 #[.tmp 7,.tmp 9] #[99,146] rfl (fun _ _=>by kernel_rfl) #[(t,()),b.tmps.getD 9 undef] (by simp only[uN,yF,vY,Act.eval];rw[show b.tmps.getD 7 undef=_ from e3];rfl) (fun v' w'=>v'=.int .i64 0/\CS s.k u a t (fun i=>O i/\i≠gf) V (seqC s.sq (wrOf s.todo)) (fun _=>False) w')
    (a9.mono fun e w' ⟨he,x⟩=>⟨_,he,rfl,x⟩) ?_
   rintro v' w' ⟨rfl,I,y1,y2,_,y4,y5⟩;refine⟨_,rfl,(fun c=>zY c (by decide)),rfl,fun g _ hg=>⟨fun _=>⟨?_,?_,I,y1,fun i r=>(y2 i r).imp id fun h=>zt J.size h,(yQ.of_below J).step y4,y5⟩,fun c=>?_⟩⟩
   .rw[qy (by omega:(3:Nat)≠6)];exact d3
   .rw[qy (by omega:(5:Nat)≠6)];exact d5
   .rw[Vs]at c;cases c
  | 7,m,L,A=>
   simp only[zk,zl,zw]at m;subst m;have e6:=C.fact 6 (A ⟨6,.data⟩ (by simp) rfl);exact Jm (.tmp 10) rfl ⟨_,rfl,(fun c=>zY c (by decide)),e6,fun g _ hg=>hJ 7 (by omega) (by omega) (by omega) g hg⟩
 .intro D b u C N;obtain⟨d3,d5,I,y1,y2,y3,y4⟩:=C.j.1 (N 6 (by simp));clear d3 d5;have e7:b.tmps.getD 3 undef=.int .i64 0:=C.fact 7 (N 7 (by simp));have B:=(y3.block gf z.o.1 (fun c=>by
   rcases c with c|c
   .exact c.2 rfl
   .exact X.o.1 c.symm)).trans aB.o
  have aw:=y3.mono fun i _ r=>by
   rcases r with r|r
   .exact f.o.1 i r.1
   .rw[r];exact f.o.2.2.1
  have R:Hid (uS u (.pointer (some a)) V s.k I/\(∀i,I i->(O i/\i≠gf)\/w.heap.size<=i)/\yQ (fun i=>(O i/\i≠gf)\/i=t) w u/\u.heap[t]?=some (.cells (logC a (seqC s.sq (wrOf s.todo))) 198)):=⟨y1,y2,y3,y4⟩;have aZ:=za B;have bj:=za aw;have bg:=(nw B).2.2.2.2.1;have bu:u.frozen? (gf,196)=false:=zF B;have bc:=xR B;have bC:¬gf=u.heap.size:=by omega
  have d:=OM 18 b C.size C.dfs;have T:=C.old 0 _ ⟨rfl,rfl⟩;rw[show (List.range 18).map (fun k=>b.tmps.getD k undef)=[b.tmps.getD 0 undef,b.tmps.getD 1 undef,b.tmps.getD 2 undef,b.tmps.getD 3 undef,b.tmps.getD 4 undef,b.tmps.getD 5 undef,b.tmps.getD 6 undef,b.tmps.getD 7 undef,b.tmps.getD 8 undef,b.tmps.getD 9 undef,b.tmps.getD 10 undef,b.tmps.getD 11 undef,b.tmps.getD 12 undef,b.tmps.getD 13 undef,b.tmps.getD 14 undef,b.tmps.getD 15 undef,b.tmps.getD 16 undef,b.tmps.getD 17 undef] from rfl,T,e7]at d;clear e7 T C N;generalize b.tmps.getD 1 undef=g1 at d;generalize b.tmps.getD 2 undef=g2 at d;generalize b.tmps.getD 4 undef=g4 at d;generalize b.tmps.getD 5 undef=g5 at d;generalize b.tmps.getD 6 undef=g6 at d;generalize b.tmps.getD 7 undef=g7 at d;generalize b.tmps.getD 8 undef=g8 at d;generalize b.tmps.getD 9 undef=g9 at d;generalize b.tmps.getD 10 undef=bL at d;generalize b.tmps.getD 11 undef=bA at d;generalize b.tmps.getD 12 undef=bV at d;generalize b.tmps.getD 13 undef=bU at d;generalize b.tmps.getD 14 undef=bF at d;generalize b.tmps.getD 15 undef=bB at d;generalize b.tmps.getD 16 undef=bK at d;generalize b.tmps.getD 17 undef=bD at d;rename_i Kq aT;refine aT _ _ ?_;rw[d];clear d y1 y2 y3 y4 aw B;have bS:∀W,(Instr.makeMap 109 none).run prog W=.ok (.map (some W.heap.size)) (W.alloc (.map #[] 0)):=fun _=>rfl;have a0:yQ (fun i=>i=gf) u (u.setCell (gf,196) (.map (some u.heap.size))):=yQ.setCell (F:=fun i=>i=gf) (p:=⟨gf,196,none⟩) rfl _;have ab:(u.setCell (gf,196) (.map (some u.heap.size))).heap.size=u.heap.size:=by simp[World.setCell]
  have ao:(u.setCell (gf,196) (.map (some u.heap.size))).heap[gf]?=some (.cells (fsR (.pointer (some a)) (t,()) s.fo rv nv (.map (some u.heap.size)) (.map (some H))) 111):=by rw[<-Sn (.pointer (some a)) (t,()) s.fo rv nv (.map (some bt))];exact yb _ _ 196 _ _ _ aZ.o
  have ay:((u.setCell (gf,196) (.map (some u.heap.size))).alloc (.map #[] 0)).heap[gf]?=some (.cells (fsR (.pointer (some a)) (t,()) s.fo rv nv (.map (some u.heap.size)) (.map (some H))) 111):=(uk _ _ (by rw[ab];exact bc)).trans ao;have au:Below (u.setCell (gf,196) (.map (some u.heap.size))).heap.size (u.setCell (gf,196) (.map (some u.heap.size))) ((u.setCell (gf,196) (.map (some u.heap.size))).alloc (.map #[] 0)):=zB.alloc zL _;have ae:MapL prog 3 ((u.setCell (gf,196) (.map (some u.heap.size))).alloc (.map #[] 0)) u.heap.size []:=by
   have:=tH (P:=prog) (K:=3) (u.setCell (gf,196) (.map (some u.heap.size)))
   rwa [ab]at this
  have ax:=a0.step (yQ.of_below au);have aq:=ae.lt;have HU:Hid (yQ (fun i=>i=gf) u ((u.setCell (gf,196) (.map (some u.heap.size))).alloc (.map #[] 0))/\u.heap.size<((u.setCell (gf,196) (.map (some u.heap.size))).alloc (.map #[] 0)).heap.size/\MapL prog 3 ((u.setCell (gf,196) (.map (some u.heap.size))).alloc (.map #[] 0)) u.heap.size []):=⟨ax,aq,ae⟩;have aV:=za ay;clear a0 ao ay au ae ax aq ab;go_wp2;generalize ((u.setCell (gf,196) (.map (some u.heap.size))).alloc (.map #[] 0))=w6 at *
  go_ret;have S:=bj.o.step (HU.o.1.mono fun i _ r=>by rw[r];exact f.o.2.2.2.1);have ad:=R.o.2.2.1.size;have ac:∀i,(F i\/(w.heap.size<=i/\i<w6.heap.size))->F i\/w.heap.size<=i:=fun i r=>r.imp id fun h=>h.1;have aC:∀i,¬I i\/i≠gf:=fun i=>by
   by_cases r:i=gf
   .left;intro c;rcases R.o.2.1 i c with h|h
    .exact h.2 r
    .have:=z.o.1;omega
   .exact zu r
  refine⟨rfl,⟨⟨t,rv,nv,u.heap.size,H,E,[],I,aV.o,?_,fun i r=>?_,fun c=>?_,?_,zr f.o.2.2.1,ZJ bk.o S ac,ZJ bl.o S ac,iY bm.o S ac,HU.o.2.2,⟨tu.nil _ _,fun y hy=>by cases hy⟩,zu ⟨ad,HU.o.2.1⟩,?_,fun c=>?_,?_,zr f.o.2.2.2.2.1,fun c=>?_⟩,zr f.o.2.2.2.1,G.o.1,fun i r=>?_,G.o.2.2.2.2,G.o.2.1,G.o.2.2.1,G.o.2.2.2.1⟩,S⟩
  .show uS w6 _ (runE s.dk (opsC s.sq (wrOf s.todo))) s.k I;rw[an.o];exact R.o.1.keep HU.o.1 fun i r c=>(aC i).elim (fun h=>h r) (fun h=>h c)
  .rcases R.o.2.1 i r with h|h
   .exact zr (f.o.1 i h.1)
   .exact zu ⟨h,zo (R.o.1.fin i r) HU.o.1.size⟩
  .rcases R.o.2.1 t c with h|h
   .exact f.o.2.1 h.1
   .have:=z.o.2.1;omega
  .exact (HU.o.1.block t (zo z.o.2.1 ad) X.o.1).trans R.o.2.2.2
  .have:=z.o.2.2;omega
  .rcases R.o.2.1 _ c with h|h
   .have:=f.o.2.2.2.2.2.2 _ (f.o.1 _ h.1);omega
   .have:=R.o.1.fin _ c;omega
  .have bp:=R.o.2.2.1.block H z.o.2.2 (fun c=>by
    rcases c with c|c
    .exact f.o.2.2.2.2.2.1 c.1
    .exact X.o.2.2 c)
   exact bb.o.of_block ((HU.o.1.block H (zo z.o.2.2 ad) X.o.2.1).trans bp)
  .rcases R.o.2.1 H c with h|h
   .exact f.o.2.2.2.2.2.1 h.1
   .have:=z.o.2.2;omega
  .rcases r with h|h
   .exact zo (f.o.2.2.2.2.2.2 i h) S.size
   .exact h.2
