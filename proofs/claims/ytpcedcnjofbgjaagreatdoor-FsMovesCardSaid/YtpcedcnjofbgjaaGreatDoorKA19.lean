import Derived.Test.YtpcedcnjofbgjaaGreatDoorKA18
set_option maxHeartbeats 0
set_option linter.all false
set_option maxRecDepth 100000
namespace Go.Proofs.YtpcedcnjofbgjaaGreatDoor
open Go.Proofs.Tryz Go.RowKit Go.Sort Go.Shelf
variable {l:List (Int×Value)} {y:Int×Value}
def toJs (y:Int×Value):Js:=(Fin.ofNat 256 y.1.toNat,match y.2 with|.slice q n c=>(q,n,c)|_=>(none,0,0))
def Pa (l:List (Int×Value)):List Value:=l.flatMap λy=>[.int .i64 y.1,y.2]
def IsW (y:Int×Value):Prop:=(0<=y.1/\y.1<256)/\∃q n c,y.2=.slice q n c
theorem IU (h:IsW y):encS (toJs y)=[.int .i64 y.1,y.2]:=by
 let⟨⟨d,b⟩,q,n,c,a⟩:=h;let⟨k,v⟩:=y;dsimp only at d b a;subst a;unfold encS toJs;dsimp only;rw[Fin.val_ofNat,wz (by omega)]
 congr 2
 omega
theorem NZ (h:∀y∈l,IsW y):Pa l=(l.map toJs).flatMap encS:=by
 rw[Pa,List.flatMap_map]
 induction l with
 | nil=>rfl
 | cons y l a=>rw[Nm,Nm,a (λz b=>h z (xj _ b)),IU (h y xK)]
theorem SD (h:IsW y):((toJs y).1.val)=y.1:=by let⟨⟨a,b⟩,_⟩:=h;unfold toJs;dsimp only;rw[Fin.val_ofNat,wz (by omega)];omega
theorem M5 {done:List (Int×Value)} {T:List Js} (s:rB l) (r:∀y∈l,IsW y) (t:done.Perm l) (u:T.Perm (done.map toJs)) (w:T.Pairwise (λa b=>a.1.val<=b.1.val)):T=l.map toJs:=by
 have c:=u.trans (t.map _);have j:(l.map toJs).Pairwise (λa b=>a.1.val<=b.1.val):=by rw[wU];refine (List.Pairwise.and_mem.1 s).imp λ{a b} h=>?_;have m:=SD (r a h.1);have g:=SD (r b h.2.1);have p:=h.2.2;omega
 refine List.Perm.eq_of_pairwise (λx y n i m g=>?_) w j c;obtain⟨a,e,rfl⟩:=yd.1 (c.mem_iff.1 n);obtain⟨b,f,rfl⟩:=yd.1 i;have o:=SD (r a e);have q:=SD (r b f);have d:a.1=b.1:=by omega
 have:=ux s (k:=a.1) (v:=a.2) e;rw[d,ux s (k:=b.1) (v:=b.2) f]at this;have  :=Prod.ext d (tZ this).symm;rw[this]
theorem W3 (l) (k) (v):Pa (l++[(k,v)])=Pa l++[.int .i64 k,v]:=by rw[Pa,vW];rfl
def PP (tl:List (Int×Value)) (todo:List (Int×List Int)):List Jw:=List.zipWith (λy z=>⟨y.1.toNat,y.2,z.2⟩) tl todo
theorem Qt : ∀{tl} {todo},tl.length=todo.length->(∀y∈tl,IsW y)->jh (PP tl todo)=Pa tl
 | [],[],_,_=>rfl
 | [],_::_,h,_=>by simp at h
 | _::_,[],h,_=>by simp at h
 | y::tl,z::todo,h,a=>by
  have d:=(a y xK).1;show jh (⟨y.1.toNat,y.2,z.2⟩::PP tl todo)=_;rw[show (⟨y.1.toNat,y.2,z.2⟩:Jw)::PP tl todo=[⟨y.1.toNat,y.2,z.2⟩]++PP tl todo from rfl,SW,Qt (tl:=tl) (todo:=todo) (by simpa using h) λq b=>a q (xj _ b)];show _=[Value.int .i64 y.1,y.2]++Pa tl
  congr 1
  show [Value.int .i64 (y.1.toNat:Int),y.2]=_;rw[show ((y.1.toNat:Nat):Int)=y.1 by omega]
theorem UH : ∀{tl} {todo},tl.map (·.1)=todo.map (·.1)->(PP tl todo).map jab=todo.map (λy=>(y.1.toNat,y.2))
 | [],[],_=>rfl
 | [],_::_,h=>by simp at h
 | _::_,[],h=>by simp at h
 | y::tl,z::todo,h=>by simp[yB,uH]at h;show jab ⟨y.1.toNat,y.2,z.2⟩::(PP tl todo).map jab=_;rw[UH h.2,yB];rw[jab,h.1]
theorem Dp {tl:List (Int×Value)} {todo:List (Int×List Int)} (h:tl.length=todo.length):(PP tl todo).length=tl.length:=by rw[PP,List.length_zipWith];omega
theorem UG {w:World} {B:Nat}:∀{tl} {todo},vr w B tl todo->(∀y∈tl,IsW y)->∀x∈PP tl todo,gG w B x
 | [],_,_,_,x,a=>by simp[PP]at a
 | _::_,[],h,_,x,a=>by simp[PP]at a
 | y::tl,z::todo,h,d,x,a=>by
  let⟨r,e,n⟩:=h.tail;rcases yZ.1 (a) with rfl|a
  .have p:=(d y xK).1;let⟨g,b,c,j,o,k,m,l,f⟩:=e;exact⟨by show y.1.toNat<256;omega,o,g,b,c,j,⟨m,k⟩,l,f⟩
  .exact UG n (λq i=>d q (xj _ i)) x a
theorem UF {F:Nat->Prop}:∀{tl} {todo},(∀y∈tl,∀g,y.2.ownBlock=some g->¬F g)->∀x∈PP tl todo,∀q,x.v.ownBlock=some q->¬F q
 | [],_,_,x,a=>by simp[PP]at a
 | _::_,[],_,x,a=>by simp[PP]at a
 | y::tl,z::todo,h,x,a=>by
  rcases yZ.1 (a) with rfl|a
  .exact h y xK
  .exact UF (λq b=>h q (xj _ b)) x a
theorem wsInfo: (prog.info? 182).map (λi=>(i.zero,i.size,i.bytes))=some (some (.agg #[(),.slice none 0 0]),2,32):=rfl
theorem wsT: prog.underlying 131=some (.slice 182):=rfl
theorem DB {w:World} {gf:Nat} {s:Fs} {F:Nat->Prop} {a:Addr} (h:FsAt w gf s F a) (hk:∀y∈s.todo,0<=y.1/\y.1<256) (hl:s.todo.length<=1000):
 Calls prog 75 #[(gf,())] w
  (λe w'=>∃v E,e=.returned v/\qJ w' w 0 v E/\(∀x∈E,∀q,x.v.ownBlock=some q->¬F q)/\E.map jab=s.todo.map (λy=>(y.1.toNat,y.2))/\Below w w w'):=by
 obtain⟨⟨gl,rv,nv,bt,bh,E,D,FD,h1,h2,h3,h4,h5,h6,h7,h8,h9,aa,j,aN,a9,aA,aB,aC,aM⟩,a1,a2,a3,a4,a5,a6,a7⟩:=h;obtain⟨_,_,_,_,ab,_⟩:=sW h1;have HM:=za aa;have P:=za j.sec;have aT:=za j.out;have bn:=za (xB h1);have W:=j.len;have L:Hid (D.length<=1000):=by show _<=_;omega
 have k:Hid (∀y∈D,IsW y):=λy hy=>by
  obtain⟨i,hi,rfl⟩:=Mu.1 hy;have J:i<s.todo.length:=by omega
  have ah:D[i].1=s.todo[i].1:=by have:=zQ (λl=>l[i]?) j.sec.1;simp only[xE,zk hi,zk J,nG,zm]at this;exact this
  refine⟨by rw[ah];exact hk _ (Nj J),?_⟩;obtain⟨g,bs,aY,hv,_⟩:=j.sec.2 i hi J;exact⟨_,_,_,hv⟩
 clear h1 h2 h3 h4 h5 h6 h7 h8 h9 aa j aN a9 aA aB aC aM a1 a2 a3 a4 a5 a6 a7 W;obtain⟨i0,am,Z,ar,aj⟩:=yX wsInfo;have aS:=za am;have aI:=za Z;have aE:=za ar;have aK:=za aj;clear am Z ar aj;go_enter func75,ntmps75;go_wp2_with (at_range;refine mQ _ rfl _ _ rfl 3 38 intT Qw bt D rfl HM.o ?_;intro w4 ao aq bg)
 have aO:=za (Cd zB aq zL (λq H=>by cases H));have aF:=za ao;obtain⟨r0,bd⟩:=zD w.heap.size;have aP:=za HM.o.lt;clear ao aq ab;simp only[Act.put,zP,yf,yb];go_loopw [3] (λov wr=>∃(c:List (Int×Value)) (M:Nat),Hid (fy prog 3 wr bt w D c M)/\Hid (Below w w wr)/\Hid (wr.ownsRow (w.heap.size+1) 182 2 ov c.length (Pa c))) (λ_ wr=>wr.rangeLeft bt w.heap.size)
 .exact⟨[],D.length,aF,aO,⟨rfl,zu ⟨rfl,rfl⟩⟩⟩
 .obtain⟨c,M,O,z,r⟩:=hrel;have ad:=O.o.left_eq;go_wp2_with (first
   | (at_next;refine RF _ rfl _ rfl 3 intT bt _ D c M rfl O.o (λhp=>?qd) (λxk c' w' aw aQ A ai n d X Q aD bw=>?qm);(case' qm=>(have C:=za d;have ae:=za n;have bq:=za d.left_eq;have aR:=za X;obtain⟨q',n',N,ac⟩:=(k.o _ A).2;have ap:c'=Value.slice q' n' N:=ac;subst ap;have ay:=za (Cd z.o Q z.o.size (λq H=>by injection H with H;omega));have I:=za (vE r.o (λb hb=>Q.block b (r.o.lt b hb).2 (λS=>by injection S with S;have:=(r.o.lt b hb).1;omega)));have m:=za d.lt;clear ac aQ A ai n d X Q aD)))
   | (at_builtin;refine yw _ rfl _ _ 131 rfl (w.heap.size+1) 182 i0 (.agg #[(),.slice none 0 0]) 2 32 wsT aS.o aI.o aE.o aK.o rfl (by decide) _ c.length (Pa c) rfl (tt I.o (zB.alloc zL _)) ⟨w'.heap.size,0,none⟩ 1 1 [.int .i64 xk,.slice q' n' N] rfl rfl (xF (cs:=#[.int .i64 xk,.slice q' n' N]) (t:=182) (fr:=(0,0)) (zO w' _)) (by simp[Value.oneCell']) (by unfold maxLen;have:=ae.o;have:=L.o;omega) (by have:=ae.o;have:=L.o;omega) (by have:=m.o;simp;omega) ?_;intro v5 w5 an p _))
  .have U:∀b,u3.ownBlock=some b->w.heap.size+1<=b:=λb hb=>(I.o.lt b hb).1;have av:∀b,b<=w.heap.size->b<w'.heap.size->w5.heap[b]?=w'.heap[b]? :=λb h1 h2=>(p.block b (by simp;omega) (λS=>by have:=U b S.symm;omega)).trans (uW _ _ h2);have G:=C.o.of_block (av bt (by have:=aP.o;omega) C.o.map.lt) (av w zL m.o);refine⟨⟨_,aw,G,Cd (ay.o.alloc ay.o.size _) p (by have:=m.o;simp;omega) (λq H=>by have:=U q H;omega),?_⟩,by rw[G.left_eq,ad];exact aR.o⟩;show World.ownsRow _ _ _ _ _ _ _;rw[W3,zl];exact an
  .have B:∀y∈c,IsW y:=λy hy=>k.o y (hp.mem_iff.1 hy);have R:=r.o;rw[NZ B,<-yD (f:=toJs)]at R;have ag:=za (Ev (w.heap.size+1) u3 (c.map toJs) wr R (by rw[yD,hp.length_eq];have:=L.o;omega));have al:=za hp;clear hp B R ad;refine ag.o.mono ?_;rintro e w6 ⟨rfl,T,au,V,K,ax⟩;have ak:=M5 O.o.map.2.1 k.o al.o au V;have Y:=za (Cd z.o ax z.o.size (λq H=>by have:=(r.o.lt q H).1;omega));have u:=P.o.len;have HJ:Hid (qJ w6 w 0 u3 (PP D s.todo)):=(by refine⟨?_,UG (P.o.keep λg cc _ S=>Y.o.block g (xB S)) k.o⟩;rw[Qt u k.o,Dp u,NZ k.o];rw[ak,yD,al.o.length_eq]at K;exact uR K (by omega));clear au V K ax ak u;go_wp2;go_ret;exact⟨u3,_,rfl,HJ.o,UF aT.o,UH P.o.1,Y.o⟩
end Go.Proofs.YtpcedcnjofbgjaaGreatDoor
namespace Go.Proofs.YtpcedcnjofbgjaaGreatDoor
open Go.Proofs.Tryz Go.RowKit
variable {B gf gp gt:Nat} {D:List Int} {E:List Nd} {F F' F1 T:Nat->Prop} {a:Addr} {pl:List (Int×Value)} {s:Fs} {w w' w0:World} {x:Tx}
theorem Q4 {φ:World->Prop} (h:Out F w φ) (c:yK F w w') (d:∀i,F' i->F i\/w.heap.size<=i):Out F' w' φ:=λb a=>h b (c.trans a d)
theorem Vr {L:List Pn} (h:Ns F w E L) (m:yK F w w') (n:∀i,F' i->F i\/w.heap.size<=i):Ns F' w' E L:=
 ⟨h.1,λi g e=>have⟨b,l,c,f,a,d,j,k⟩:=h.2 i g e;⟨b,l,c,f,a,d,j,Q4 k m n⟩⟩
def wrOf (l:List (Int×List Int)):List Wr:=l.map λy=>(y.1.toNat,y.2)
def ZA (s:Fs):Fs:={s with dk:=runE s.dk (opsC s.sq (wrOf s.todo)),sq:=seqC s.sq (wrOf s.todo),todo:=[]}
def syL (gf gl:Nat):List (Option Value):=
 let t:Option Value:=some (.pointer (some ⟨gf,0,none⟩))
 [t,t,some (.pointer (some ⟨gf,1,none⟩)),some (gl,()),t,none,some (.int .i64 0),some (.int .i64 0)]
theorem J4 (d lg) (fo) (rv nv tv hv u):(fsR d lg fo rv nv tv hv).setIfInBounds 196 u=fsR d lg fo rv nv u hv:=by
 rw[Tq _ _ _ _ _ _ _ 196 (by omega) u (by omega)];unfold fsR
 congr 1
 funext j
 unfold pZ;by_cases h:j.val=196
 .simp[h]
 .simp[h]
theorem Vx (h:FsAt w gf s F a) (hg:YB s.k (wrOf s.todo)) (ah:∀y∈s.todo,0<=y.1/\y.1<256) (ai:0<=s.sq/\s.sq<=1000) (hW:s.dk.W.length<800000):
 Calls prog 30 #[(gf,())] w
  (ρ () λw'=>FsAt w' gf (ZA s) (λi=>F i\/(w.heap.size<=i/\i<w'.heap.size)) a/\yK F w w'):=by
 have aR:=za (λ(W:World) (hW:Below w w W)=>DB (h.below hW) ah (by have:=hg.l;unfold wrOf at this;rw[yD]at this;omega));obtain⟨⟨t,rv,nv,bt,H,E,tl,O,h1,h2,h3,h4,Y,h6,h7,h8,h9,aY,bn,be,aQ,aS,M,ap,aA⟩,a1,a2,a3,a4,a5,a6,a7⟩:=h;obtain⟨c0,c1,_,_,bx,_⟩:=sW h1;have a8:=h2.without h1 (by decide) (by decide) (by decide);have HD:=za a8;have aB:=za h1;have bo:=za Y;have av:=ve Y h1 (by decide);have aF:H≠gf:=λc=>xM h1 M c.symm;have Z:H≠t:=λc=>xM Y M c.symm;have X:Hid (t≠gf/\H≠gf/\H≠t):=⟨av,aF,Z⟩;have f:Hid ((∀i,O i->F i)/\¬O t/\F t/\F gf/\F H/\¬O H/\(∀i,F i->i<w.heap.size)):=⟨h3,h4,h6,a1,ap,aA,a3⟩;have bk:=za h7;have bl:=za h8;have bm:=za h9;have bb:=za M;have z:Hid (gf<w.heap.size/\t<w.heap.size/\H<w.heap.size):=⟨xB h1,xB Y,M.lt⟩;have G:Hid (s.nodes.length=32/\64<=s.k/\s.k<=256/\s.rows.length<=20/\s.held.length<=1000/\∀y∈s.held,0<=y.2/\y.2<=1000000):=⟨a2,a5,a6,a7,a4⟩;have HG:=za hg;have bf:=za ai;have aU:=za hW;obtain⟨V,an⟩:=zD (runE s.dk (opsC s.sq (wrOf s.todo)));clear h1 h2 h3 h4 Y h6 h7 h8 h9 aY bn be aQ aS M ap aA a1 a2 a3 a4 a5 a6 a7 a8 av aF Z hg ah ai hW c0;go_enter func30,ntmps30
 go_upto_region 1 with fail
 refine RX (by kernel_rfl) (by kernel_rfl) (λD g u=>(D 6=true->D 3=true/\D 5=true/\∃I,uT u a V s.k I/\(∀i,I i->(O i/\i≠gf)\/w.heap.size<=i)/\yK (λi=>(O i/\i≠gf)\/i=t) w u/\u.heap[t]?=some (.cells (logC a (seqC s.sq (wrOf s.todo))) 178)) /\
  (D 6=false->Below w w u/\(D 5=true->∃E,qJ u w 0 (g 5) E/\(∀x∈E,∀q,x.v.ownBlock=some q->¬F q)/\E.map jab=wrOf s.todo)))
  18 (λi=>if i<7 then 4+i else if i=7 then 3 else 1000+i) (atL (syL gf t)) (λk v=>k=0/\v=.pointer (some ⟨gf,0,none⟩)) (λi j bG=>?_) (λi k v hk=>?_) (by kernel_rfl) ⟨rfl,rfl,λk v hk=>?_,λc=>by simp at c,λ_=>⟨zB.drew,λc=>by simp at c⟩⟩ ?_ ?_
 .split<;>split<;>(try split)<;>(try split)<;>omega
 .obtain⟨rfl,_⟩:=hk;split<;>(try split)<;>omega
 .obtain⟨rfl,rfl⟩:=hk;rfl
 .intro D b u C i o m L A;have T:=C.old 0 _ ⟨rfl,rfl⟩;obtain⟨af,U⟩:=C.j;have hJ:∀n,n≠3->n≠5->n≠6->∀(g:Nat->Value),(∀k,k≠n->g k=b.tmps.getD (if k<7 then 4+k else if k=7 then 3 else 1000+k) undef)->(upd D n 6=true->upd D n 3=true/\upd D n 5=true/\∃I,uT u a V s.k I/\(∀i,I i->(O i/\i≠gf)\/w.heap.size<=i)/\yK (λi=>(O i/\i≠gf)\/i=t) w u/\u.heap[t]?=some (.cells (logC a (seqC s.sq (wrOf s.todo))) 178)) /\
   (upd D n 6=false->Below w w u/\(upd D n 5=true->∃E,qJ u w 0 (g 5) E/\(∀x∈E,∀q,x.v.ownBlock=some q->¬F q)/\E.map jab=wrOf s.todo)):=λn h3 Y h6 g hg=>by
   rw[rQ (yA h6),rQ (yA h3),rQ (yA Y)];refine⟨af,λc=>?_⟩;obtain⟨J,q2⟩:=U c;refine⟨J,λag=>?_⟩;rw[hg 5 (yA Y)];exact q2 ag
  match i,m,L,A with
  | 0,m,L,A=>
   simp only[zf,zm]at m;subst m;exact tj (.tmp 0) rfl ⟨_,rfl,(λc=>yi c (by decide)),T,λg _ hg=>hJ 0 (by omega) (by omega) (by omega) g hg⟩
  | 1,m,L,A=>
   simp only[zf,zh,zm]at m;subst m;have e0:=C.fact 0 (A ⟨0,.data⟩ (by simp) rfl);exact kU (.tmp 4) rfl ⟨gf,0,none⟩ e0 ⟨_,rfl,(λc=>yi c (by decide)),rfl,λg _ hg=>hJ 1 (by omega) (by omega) (by omega) g hg⟩
  | 2,m,L,A=>
   simp only[zf,zh,zm]at m;subst m;have e1:=C.fact 1 (A ⟨1,.data⟩ (by simp) rfl);exact vI (v:=.pointer (some ⟨gf,1,none⟩)) (w':=u) (by unfold execOp;simp only[Act.eval];rw[show b.tmps.getD 5 undef=_ from e1];simp[go_sem]) ⟨_,rfl,(λc=>yi c (by decide)),rfl,λg _ hg=>hJ 2 (by omega) (by omega) (by omega) g hg⟩
  | 3,m,L,A=>
   simp only[zf,zh,zm]at m;subst m;have e2:=C.fact 2 (A ⟨2,.data⟩ (by simp) rfl);have Q:D 6=false:=by
    cases h6:D 6 with
    | false=>rfl
    | true=>have:=(af h6).1;rw[L]at this;cases this
   obtain⟨J,q2⟩:=U Q;have c:=(J.cell (p:=⟨gf,1,none⟩) z.o.1).trans c1;refine vI (v:=.pointer (some ⟨t,0,none⟩)) (w':=u) (by unfold execOp;simp only[Act.eval];rw[show b.tmps.getD 6 undef=_ from e2];simp[go_sem,c]) ⟨_,rfl,(λc=>yi c (by decide)),rfl,λg _ hg=>?_⟩;rw[rQ (by omega:(6:Nat)≠3),rQ (by omega:(5:Nat)≠3)];refine⟨λc=>(by rw[Q]at c;cases c),λ_=>⟨J,λag=>?_⟩⟩;rw[hg 5 (by omega)];exact q2 ag
  | 4,m,L,A=>
   simp only[zf,zh,zm]at m;subst m;exact tj (.tmp 0) rfl ⟨_,rfl,(λc=>yi c (by decide)),T,λg _ hg=>hJ 4 (by omega) (by omega) (by omega) g hg⟩
  | 5,m,L,A=>
   simp only[zf,zh,zm]at m;subst m;have e4:=C.fact 4 (A ⟨4,.data⟩ (by simp) rfl);have Q:D 6=false:=by
    cases h6:D 6 with
    | false=>rfl
    | true=>have:=(af h6).2.1;rw[L]at this;cases this
   obtain⟨J,q2⟩:=U Q;refine lZ 75 #[.tmp 8] #[25] rfl (λ_ _=>by kernel_rfl) #[(gf,())] (by simp only[uu,yB,vS,Act.eval];rw[show b.tmps.getD 8 undef=_ from e4];rfl) (λv' w'=>∃E,qJ w' u 0 v' E/\(∀x∈E,∀q,x.v.ownBlock=some q->¬F q)/\E.map jab=wrOf s.todo/\Below u u w')
    ((aR.o u J).mono λe w' ⟨v,E,he,x1,x0,x2,x3⟩=>⟨v,he,E,x1,x0,x2,x3⟩) ?_
   rintro v' w' ⟨E,x1,x0,x2,x3⟩;refine⟨_,rfl,(λc=>yi c (by decide)),trivial,λg bq hg=>?_⟩;rw[rQ (by omega:(6:Nat)≠5)];refine⟨λc=>(by rw[Q]at c;cases c),λ_=>⟨zi J x3,λ_=>⟨E,?_,x0,x2⟩⟩⟩;rw[bq];exact⟨uR x1.1 J.size,x1.2⟩
  | 6,m,L,A=>
   simp only[zf,zh,zm]at m;subst m;have e3:=C.fact 3 (A ⟨3,.data⟩ (by simp) rfl);have d5:=A ⟨5,.data⟩ (by simp) rfl;have d3:=A ⟨3,.data⟩ (by simp) rfl;obtain⟨J,q2⟩:=U L;obtain⟨E,x1,x0,x2⟩:=q2 d5;have aE:qJ u w 0 (b.tmps.getD 9 undef) E:=x1;have az:=xV J bo.o;have ba:CS s.k u a t (λi=>O i/\i≠gf) s.dk s.sq (λ_=>False) u:=⟨_,HD.o.below J,λ_ r=>zu r,λ_ c=>c.elim,yK.refl _ _,az⟩;have a9:=XN G.o.2.1 G.o.2.2.1 ba ⟨λc=>f.o.2.1 c.1,xB az⟩ _ E aE (λx hx q hq=>⟨λc=>x0 x hx q hq (f.o.1 q c.1),λc=>x0 x hx q hq (by rw[c];exact f.o.2.2.1)⟩) (λq hq=>have h9:=(aE.1.lt q hq).1;⟨λc=>yi (f.o.2.2.2.2.2.2 q (f.o.1 q c.1)) (xn h9),λc=>yi (f.o.2.2.2.2.2.2 q (by rw[c];exact f.o.2.2.1)) (xn h9)⟩) (by rw[x2];exact HG.o) bf.o aU.o;rw[x2,an.o]at a9;refine lZ 74 #[.tmp 7,.tmp 9] #[94,131] rfl (λ_ _=>by kernel_rfl) #[(t,()),b.tmps.getD 9 undef] (by simp only[uu,yB,vS,Act.eval];rw[show b.tmps.getD 7 undef=_ from e3];rfl) (λv' w'=>v'=.int .i64 0/\CS s.k u a t (λi=>O i/\i≠gf) V (seqC s.sq (wrOf s.todo)) (λ_=>False) w')
    (a9.mono λe w' ⟨he,x⟩=>⟨_,he,rfl,x⟩) ?_
   rintro v' w' ⟨rfl,I,y1,y2,_,y4,y5⟩;refine⟨_,rfl,(λc=>yi c (by decide)),rfl,λg _ hg=>⟨λ_=>⟨?_,?_,I,y1,λi r=>(y2 i r).imp id λh=>zv J.size h,(yK.of_below J).step y4,y5⟩,λc=>?_⟩⟩
   .rw[rQ (by omega:(3:Nat)≠6)];exact d3
   .rw[rQ (by omega:(5:Nat)≠6)];exact d5
   .rw[O3]at c;cases c
  | 7,m,L,A=>
   simp only[zf,zh,zm]at m;subst m;have e6:=C.fact 6 (A ⟨6,.data⟩ (by simp) rfl);exact Rg (.tmp 10) rfl ⟨_,rfl,(λc=>yi c (by decide)),e6,λg _ hg=>hJ 7 (by omega) (by omega) (by omega) g hg⟩
 .intro D b u C N;obtain⟨d3,d5,I,y1,y2,y3,y4⟩:=C.j.1 (N 6 (by simp));clear d3 d5;have e7:b.tmps.getD 3 undef=.int .i64 0:=C.fact 7 (N 7 (by simp));have B:=(y3.block gf z.o.1 (λc=>by
   rcases c with c|c
   .exact c.2 rfl
   .exact X.o.1 c.symm)).trans aB.o
  have aw:=y3.mono λi _ r=>by
   rcases r with r|r
   .exact f.o.1 i r.1
   .rw[r];exact f.o.2.2.1
  have R:Hid (uT u a V s.k I/\(∀i,I i->(O i/\i≠gf)\/w.heap.size<=i)/\yK (λi=>(O i/\i≠gf)\/i=t) w u/\u.heap[t]?=some (.cells (logC a (seqC s.sq (wrOf s.todo))) 178)):=⟨y1,y2,y3,y4⟩;have aZ:=za B;have bj:=za aw;have bg:=(sW B).2.2.2.2.1;have bu:u.frozen? (gf,196)=false:=zF B;have bc:=xB B;have bC:¬gf=u.heap.size:=by omega
  have d:=DO 18 b C.size C.dfs;have T:=C.old 0 _ ⟨rfl,rfl⟩;rw[show (List.range 18).map (λk=>b.tmps.getD k undef)=[b.tmps.getD 0 undef,b.tmps.getD 1 undef,b.tmps.getD 2 undef,b.tmps.getD 3 undef,b.tmps.getD 4 undef,b.tmps.getD 5 undef,b.tmps.getD 6 undef,b.tmps.getD 7 undef,b.tmps.getD 8 undef,b.tmps.getD 9 undef,b.tmps.getD 10 undef,b.tmps.getD 11 undef,b.tmps.getD 12 undef,b.tmps.getD 13 undef,b.tmps.getD 14 undef,b.tmps.getD 15 undef,b.tmps.getD 16 undef,b.tmps.getD 17 undef] from rfl,T,e7]at d;clear e7 T C N;generalize b.tmps.getD 1 undef=g1 at d;generalize b.tmps.getD 2 undef=g2 at d;generalize b.tmps.getD 4 undef=g4 at d;generalize b.tmps.getD 5 undef=g5 at d;generalize b.tmps.getD 6 undef=g6 at d;generalize b.tmps.getD 7 undef=g7 at d;generalize b.tmps.getD 8 undef=g8 at d;generalize b.tmps.getD 9 undef=g9 at d;generalize b.tmps.getD 10 undef=bL at d;generalize b.tmps.getD 11 undef=bA at d;generalize b.tmps.getD 12 undef=bV at d;generalize b.tmps.getD 13 undef=bU at d;generalize b.tmps.getD 14 undef=bF at d;generalize b.tmps.getD 15 undef=bB at d;generalize b.tmps.getD 16 undef=bK at d;generalize b.tmps.getD 17 undef=bD at d;rename_i Kq aT;refine aT _ _ ?_;rw[d];clear d y1 y2 y3 y4 aw B;have bS:∀W,(Instr.makeMap 90 none).run prog W=.ok (.map (some W.heap.size)) (W.alloc (.map #[] 0)):=λ_=>rfl;have a0:yK (λi=>i=gf) u (u.setCell (gf,196) (.map (some u.heap.size))):=yK.setCell (F:=λi=>i=gf) (p:=⟨gf,196,none⟩) rfl _;have ab:(u.setCell (gf,196) (.map (some u.heap.size))).heap.size=u.heap.size:=by simp[World.setCell]
  have ao:(u.setCell (gf,196) (.map (some u.heap.size))).heap[gf]?=some (.cells (fsR a (t,()) s.fo rv nv (.map (some u.heap.size)) (.map (some H))) 97):=by rw[<-J4 a (t,()) s.fo rv nv (.map (some bt))];exact zT _ _ 196 _ _ _ aZ.o
  have ay:((u.setCell (gf,196) (.map (some u.heap.size))).alloc (.map #[] 0)).heap[gf]?=some (.cells (fsR a (t,()) s.fo rv nv (.map (some u.heap.size)) (.map (some H))) 97):=(uW _ _ (by rw[ab];exact bc)).trans ao;have au:Below (u.setCell (gf,196) (.map (some u.heap.size))).heap.size (u.setCell (gf,196) (.map (some u.heap.size))) ((u.setCell (gf,196) (.map (some u.heap.size))).alloc (.map #[] 0)):=zB.alloc zL _;have ae:MapL prog 3 ((u.setCell (gf,196) (.map (some u.heap.size))).alloc (.map #[] 0)) u.heap.size []:=by
   have:=oI (P:=prog) (K:=3) (u.setCell (gf,196) (.map (some u.heap.size)))
   rwa [ab]at this
  have ax:=a0.step (yK.of_below au);have aq:=ae.lt;have HU:Hid (yK (λi=>i=gf) u ((u.setCell (gf,196) (.map (some u.heap.size))).alloc (.map #[] 0))/\u.heap.size<((u.setCell (gf,196) (.map (some u.heap.size))).alloc (.map #[] 0)).heap.size/\MapL prog 3 ((u.setCell (gf,196) (.map (some u.heap.size))).alloc (.map #[] 0)) u.heap.size []):=⟨ax,aq,ae⟩;have aV:=za ay;clear a0 ao ay au ae ax aq ab;go_wp2;generalize ((u.setCell (gf,196) (.map (some u.heap.size))).alloc (.map #[] 0))=w6 at *
  go_ret;have S:=bj.o.step (HU.o.1.mono λi _ r=>by rw[r];exact f.o.2.2.2.1);have ad:=R.o.2.2.1.size;have ac:∀i,(F i\/(w.heap.size<=i/\i<w6.heap.size))->F i\/w.heap.size<=i:=λi r=>r.imp id λh=>h.1;have aC:∀i,¬I i\/i≠gf:=λi=>by
   by_cases r:i=gf
   .left;intro c;rcases R.o.2.1 i c with h|h
    .exact h.2 r
    .have:=z.o.1;omega
   .exact zw r
  refine⟨rfl,⟨⟨t,rv,nv,u.heap.size,H,E,[],I,aV.o,?_,λi r=>?_,λc=>?_,?_,zu f.o.2.2.1,Q4 bk.o S ac,Q4 bl.o S ac,Vr bm.o S ac,HU.o.2.2,⟨vr.nil _ _,λy hy=>by cases hy⟩,zw ⟨ad,HU.o.2.1⟩,?_,λc=>?_,?_,zu f.o.2.2.2.2.1,λc=>?_⟩,zu f.o.2.2.2.1,G.o.1,λi r=>?_,G.o.2.2.2.2,G.o.2.1,G.o.2.2.1,G.o.2.2.2.1⟩,S⟩
  .show uT w6 _ (runE s.dk (opsC s.sq (wrOf s.todo))) s.k I;rw[an.o];exact R.o.1.keep HU.o.1 λi r c=>(aC i).elim (λh=>h r) (λh=>h c)
  .rcases R.o.2.1 i r with h|h
   .exact zu (f.o.1 i h.1)
   .exact zw ⟨h,zr (R.o.1.fin i r) HU.o.1.size⟩
  .rcases R.o.2.1 t c with h|h
   .exact f.o.2.1 h.1
   .have:=z.o.2.1;omega
  .exact (HU.o.1.block t (zr z.o.2.1 ad) X.o.1).trans R.o.2.2.2
  .have:=z.o.2.2;omega
  .rcases R.o.2.1 _ c with h|h
   .have:=f.o.2.2.2.2.2.2 _ (f.o.1 _ h.1);omega
   .have:=R.o.1.fin _ c;omega
  .have bp:=R.o.2.2.1.block H z.o.2.2 (λc=>by
    rcases c with c|c
    .exact f.o.2.2.2.2.2.1 c.1
    .exact X.o.2.2 c)
   exact bb.o.of_block ((HU.o.1.block H (zr z.o.2.2 ad) X.o.2.1).trans bp)
  .rcases R.o.2.1 H c with h|h
   .exact f.o.2.2.2.2.2.1 h.1
   .have:=z.o.2.2;omega
  .rcases r with h|h
   .exact zr (f.o.2.2.2.2.2.2 i h) S.size
   .exact h.2
def Nt (x:Tx) (j:Nat):Bool:=(getZ x.dirty (2*j+1)).isSome||(getZ x.dirty (2*j+2)).isSome
def oh (k:Nat) (x:Tx) (j:Nat):Tx:={x.wow (ownU x.ow k (x.fo.nd 0 j)).2 with fo:=ndF (ownU x.ow k (x.fo.nd 0 j)).2.fo j (ownU x.ow k (x.fo.nd 0 j)).1}
def vi (k:Nat) (x:Tx):Nat->Tx
 | 0=>x
 | j+1=>if Nt x j=true then oh k (vi k x j) j else vi k x j
def uS (x:Tx):Nat->List (Int×List Int)
 | 0=>x.put
 | j+1=>if Nt x j=true then putZ (uS x j) (x.fo.nd 0 j) (oo (x.nodes.getD (2*j) zN)++oo (x.nodes.getD (2*j+1) zN)) else uS x j
def Gg (x:Tx):Tx:={x with put:=uS x 16}
def endT (k:Nat) (x:Tx):Tx:=sa (Gg (vi k x 16)) x.gone.length
theorem rx (k) (x):∀j,(vi k x j).nodes=x.nodes/\(vi k x j).dirty=x.dirty/\(vi k x j).put=x.put/\(vi k x j).gone=x.gone/\(vi k x j).rows=x.rows
 | 0=>⟨rfl,rfl,rfl,rfl,rfl⟩
 | j+1=>by
  have a:=rx k x j;unfold vi;split
  .exact a
  .exact a
theorem Vn (o) (k) (p):(ownU o k p).2.fo.nd=o.fo.nd:=by
 have a:∀o,(qz o k).2.fo.nd=o.fo.nd:=λo=>by
  unfold qz;cases pM o.fo k with
  | none=>rfl
  | some n=>rfl
 unfold ownU;split
 .exact a o
 .split
  .exact a _
  .rfl
theorem Uo {k:Nat} {x:Tx} (s:k<=256) (t:256<=x.fake) (u:∀i,i<16->0<=x.fo.nd 0 i/\x.fo.nd 0 i<=x.fake):∀j,j<=16->256<=(vi k x j).fake/\x.fake<=(vi k x j).fake/\(vi k x j).fake<=x.fake+j/\(∀i,i<16->0<=(vi k x j).fo.nd 0 i/\(vi k x j).fo.nd 0 i<=(vi k x j).fake)/\∀i,j<=i->(vi k x j).fo.nd 0 i=x.fo.nd 0 i
 | 0,_=>⟨t,Mr _,by show x.fake<=_;omega,u,λ_ _=>rfl⟩
 | j+1,r=>by
  let⟨a,b,c,d,e⟩:=Uo s t u j (by omega);unfold vi;split
  .let⟨n,l,h,q⟩:=KE (o:=(vi k x j).ow) (p:=(vi k x j).fo.nd 0 j) s a (d j (by omega));have f:=Vn (vi k x j).ow k ((vi k x j).fo.nd 0 j);have m:(vi k x j).ow.fk=(vi k x j).fake:=rfl;refine⟨uP a h,uP b h,?_,λi g=>?_,λi g=>?_⟩
   .show (ownU (vi k x j).ow k ((vi k x j).fo.nd 0 j)).2.fk<=_;omega
   .show 0<=(if 0=0/\i=j then (ownU (vi k x j).ow k ((vi k x j).fo.nd 0 j)).1 else (ownU (vi k x j).ow k ((vi k x j).fo.nd 0 j)).2.fo.nd 0 i)/\(if 0=0/\i=j then (ownU (vi k x j).ow k ((vi k x j).fo.nd 0 j)).1 else (ownU (vi k x j).ow k ((vi k x j).fo.nd 0 j)).2.fo.nd 0 i)<=(ownU (vi k x j).ow k ((vi k x j).fo.nd 0 j)).2.fk;split
    .exact⟨n,l⟩
    .rw[f];exact⟨(d i g).1,uP (d i g).2 h⟩
   .show (if 0=0/\i=j then (ownU (vi k x j).ow k ((vi k x j).fo.nd 0 j)).1 else (ownU (vi k x j).ow k ((vi k x j).fo.nd 0 j)).2.fo.nd 0 i)=_;rw[zb (by omega),f];exact e i (by omega)
  .exact⟨a,b,by omega,d,λi g=>e i (by omega)⟩
theorem txR_nd (fp) (fo) (rv nv dv pv gv) (full) (fake) (j) (e:j<16) (p):(txR fp fo rv nv dv pv gv full fake).setIfInBounds (1+j) (.int .i64 p)=txR fp (ndF fo j p) rv nv dv pv gv full fake:=by
 refine Ko (by simp[qB]) λi d=>?_;rw[yH,qB,mS _ _ _ _ _ _ _ _ _ _ d];unfold K8;by_cases c:1+j=i
 .subst c;rw[ze rfl,ze (by omega),zb (by omega),ze (by omega)];rw[nu,ndF,show (1+j-1) / 48=0 by omega,show (1+j-1)%48=j by omega,ze e];simp
 .rw[zb c];by_cases a:i=0
  .rw[ze a,ze a]
  .rw[zb a,zb a];by_cases b:i<193
   .rw[ze b,ze b];unfold nu ndF;split
    .dsimp only;rw[zb (by omega)]
    .rfl
   .rw[zb b,zb b]
theorem Ox (x):∀j,(uS x j).length<=x.put.length+j
 | 0=>zL
 | j+1=>by
  have a:=Ox x j;unfold uS;split
  .have:=pT (x.fo.nd 0 j) (oo (x.nodes.getD (2*j) zN)++oo (x.nodes.getD (2*j+1) zN)) (uS x j);omega
  .omega
theorem Qk {α:Type} (k) (v):∀{l:List (Int×α)},rB l->(putZ l k v).length=if hasZ l k=true then l.length else l.length+1
 | [],_=>rfl
 | y::r,h=>by
  have d:=Qk k v h.tail;unfold hasZ at *
  unfold putZ getZ;by_cases b:k<y.1
  .have a:getZ r k=none:=by
    cases c:getZ r k with
    | none=>rfl
    | some z=>exact yi (h.head _ (pU c)) (by omega)
   rw[ze b,zb (show ¬y.1=k by omega),a];rfl
  .rw[zb b];by_cases a:k=y.1
   .rw[ze a,ze a.symm];rfl
   .rw[zb a,zb (yA a),yv,d];split<;>rfl
theorem io {α β:Type} (k) (v) (u):∀{l:List (Int×α)} {m:List (Int×β)},l.map (·.1)=m.map (·.1)->(putZ l k v).map (·.1)=(putZ m k u).map (·.1)
 | [],[],_=>rfl
 | [],_::_,h=>by cases h
 | _::_,[],h=>by cases h
 | y::l,z::m,h=>by
  simp[yB,uH]at h;unfold putZ;rw[h.1];split
  .simp[yB,h.1,h.2]
  .split
   .simp[yB,h.2]
   .simp[yB,h.1,io k v u h.2]
theorem OC {α β:Type}:∀{p} {q} {t:List (Int×α)} {u:List (Int×β)},p.map (·.1)=q.map (·.1)->t.map (·.1)=u.map (·.1)->(qN t p).map (·.1)=(qN u q).map (·.1)
 | [],[],_,_,_,h=>h
 | [],_::_,_,_,h,_=>by cases h
 | _::_,[],_,_,h,_=>by cases h
 | y::p,z::q,t,u,h,a=>by simp[yB,uH]at h;show (qN (putZ t y.1 y.2) p).map _=(qN (putZ u z.1 z.2) q).map _;refine OC h.2 ?_;rw[h.1];exact io _ _ _ a
theorem fZ {α:Type}:∀{p t:List (Int×α)},rB t->rB (qN t p)
 | [],_,h=>h
 | y::p,_,h=>fZ (p:=p) (kE y.1 y.2 h)
theorem Zo {α:Type} {k:Int}:∀{p t:List (Int×α)},(∀y∈p,y.1≠k)->getZ (qN t p) k=getZ t k
 | [],_,_=>rfl
 | y::p,t,h=>by show getZ (qN (putZ t y.1 y.2) p) k=_;rw[Zo λz a=>h z (xj _ a),qE _ (yA (h y xK))]
theorem jl.put {l:List (Int×List Int)} (h:jl w F pl l) {k:Int} {v:Value} (c:js w 0 v D) (d:∀g,v.ownBlock=some g->¬F g):jl w F (putZ pl k v) (putZ l k D):=
 ⟨vr.put c h.sec,λy a g b=>by
  rcases NJ a with rfl|a
  .exact d g b
  .exact h.out y a g b⟩
structure WV (s:Fs):Prop where
 g:YB s.k (wrOf s.todo)
 k:∀y∈s.todo,0<=y.1/\y.1<256
 q:0<=s.sq/\s.sq<=1000
 w:s.dk.W.length<800000
def tE (x:Tx) (s:Fs):Fs:=if 30<(qN s.todo (ua x s)).length then ZA s else s
def N9 (x:Tx) (s:Fs):Fs:={tE x s with fo:=x.fo,rows:=x.rows,nodes:=x.nodes,todo:=qN (tE x s).todo (ua x s)}
structure KeepJ (w0:World) (gt gf:Nat) (x:Tx) (s s1:Fs) (a:Addr) (F1:Nat->Prop) (W:World):Prop where
 ex:∃F' T3 rv gn cn gd gp gv E pl,FsAt W gf s1 F' a/\mV W w0 F' T3 gt (gf,()) {x with put:=ua x s} rv gn cn gd gp gv E pl/\(∀i,T3 i->¬F' i/\i<W.heap.size)/\jl W F' pl (ua x s)/\(∀i,F' i->F1 i\/w0.heap.size<=i)/\T3 gt
 keeps:yK F1 w0 W
theorem Sd {α:Type} (t p) (k) (v:α):qN t (p++[(k,v)])=putZ (qN t p) k v:=by rw[qN,xf];rfl
theorem fy.done_len {P:Program} {K:TypeId} {b r:Nat} {l done:List (Int×Value)} {cnt:Nat} (h:fy P K w b r l done cnt):done.length<=l.length:=by let⟨_,_,d,c,_⟩:=h;have:=ss (ys:=l.map (·.1)) d (λz e=>by obtain⟨y,a,rfl⟩:=yd.1 e;exact yd.2 ⟨y,c y a,rfl⟩);simpa using this
theorem Kd (hf:FsAt w0 gf s F1 a) (hb:Below w0 w0 w) (h:TxAt w w0 F gt (gf,()) x T) (af:∀i,F1 i->F i)
 (hr:fD x.fo=0) (hq:ZQ x.rows=0) (an:s.todo.length<=1000) (hpt:x.put.length<=890) (hs:30<(qN s.todo (ua x s)).length->WV s):
 Calls prog 102 #[(gt,())] w
  (ρ () λw'=>∃F',FsAt w' gf (N9 x s) F' a/\(∀i,F' i->F1 i\/w0.heap.size<=i)/\yK F1 w0 w'):=by
 have H:=za h;have HF:=za hf;have cZ:=za hb;obtain⟨rv,gn,cn,gd,X,gv,E,pl,V⟩:=h.lies;obtain⟨c0,aw,aZ,a8,ac,ba,aY,a7⟩:=nw V.row;have HL:=za V;have cS:Hid (5<=s.k):=za (zv (by omega) hf.k0);have d3:=za an;have cA:=za hpt;have eu:=za hs;obtain⟨A,HA⟩:=zA (encF x.fo);have eP:Hid (A.size=192):=by rw[HA.o];exact vX _
 obtain⟨R,HR⟩:=zD (txR (gf,()) x.fo rv (.slice (some ⟨gn,0,none⟩) 32 cn) (.map (some gd)) (.map (some X)) gv x.full x.fake);have cN:Hid (∀j,j<A.size->R[1+j]?=A[j]?):=by rw[<-HR.o,HA.o];exact PC _ _ _ _ _ _ _ _ _
 have aF:=V.row;rw[HR.o]at aF;have aI:=za aF;have d2:Hid (∀W,Calls prog 88 #[.agg A] W (N8 x.fo W)):=λW=>by rw[HA.o];exact QZ _ hr W
 have c5:Hid (∀W,Below w w W->Calls prog 124 #[rv] W (l6 x.rows W)):=λW hW=>TW rv x.rows W (V.rows.now.below hW) hq;have eT:=(gW hq).1;clear h hf hb V hr hq aF hs;go_enter func102,ntmps102;go_wp2_with (refine uU (by kernel_rfl) 85 (.tmp 19) rfl gt 1 rfl 92 R A (0,0) _ aI.o cN.o forT rfl (by rw[eP.o];exact forI) ?_)
 refine (d2.o w).mono ?_;rintro e w1 ⟨v1,rfl,cR,dE⟩;obtain⟨_,⟨_,h0⟩|⟨g1,eG,fs,rfl,eH,bG,eZ,_,_,d6⟩⟩:=id cR
 .omega
 have br:=za dE;have eL:=za bG;have fe:=za d6;have eQ:Hid (w.heap.size<=g1/\g1<w1.heap.size):=⟨by omega,xB bG⟩;clear cR dE bG d6 eH;have cx:=(br.o.cell (p:=⟨gt,193,none⟩) (xB aI.o)).trans aw;go_wp2_with fail
 refine (c5.o w1 br.o).mono ?_;rintro e w2 ⟨g2,rfl,da,ch,cf⟩;have di:=za (zi br.o cf);have eb:=za ch;have bC:=za (xV cf eL.o);have cv:Hid (w.heap.size<=g2/\g2<w2.heap.size/\g1<w2.heap.size):=⟨zv br.o.size da,xB ch,xB bC.o⟩;clear da ch cf c0 aw cx aZ a8 ac ba aY a7;have cK:=za (H.o.below di.o);have ad:=za (cZ.o.trans (di.o.mono cZ.o.size));go_wp2;go_loopw [38] (λiv wr=>∃j:Nat,j<=3/\iv=.int .i64 j/\Hid (sZ w0 F gt (gf,()) {x with put:=dfK s (uc x.fo) x.put j} T w2 wr)) (λiv _=>3-(intOf iv).toNat)
 .exact⟨0,by omega,rfl,sZ.same cK.o zB⟩
 .obtain⟨j,hj,rfl,HD⟩:=hrel;by_cases et:j<3
  .obtain⟨T1,t1,t2,t3,t4⟩:=HD.o;have ai:=za t3;have a6:=za t2;have bZ:=za t4;have bF:¬T g1:=λd=>(by have:=H.o.fin g1 d;have:=eQ.o.1;omega);have aJ:=ad.o.trans (t3.to_below H.o.new ad.o.size);have aC:=(t3.block g1 cv.o.2.2 bF).trans bC.o;have ah:uM wr (.slice (some (g1,64*j)) 64 (eG-64*j)) (sec (uc x.fo) j):=ID (_base:=0) (_c:=0) (nn _) aC (by simpa using fe.o) (64*j) 64 _ (by omega);have dy:(sec (uc x.fo) j).length=64:=jn (k:=3) (nn _) et;have ar:=za (Uf HF.o aJ t1 (1+j) (by have:=cS.o;omega) _ _ ah dy (by have:=ni s (uc x.fo) x.put j;show (dfK s (uc x.fo) x.put j).length<900;omega));have i1:=zW (64*j) (by omega);have i2:=zW (j+1) (by omega);have i3:=zW (64*(j+1)) (by omega);have i4:=zW (1+j) (by omega);have i5:((1+j:Nat))=1+(j:Int):=(by omega);rw[i5]at ar;have fm:(j:Int)<3:=(by omega);clear t1 t2 t3 t4 aJ aC ah dy bF;go_wp2_with fail
   rw[show 64*(j+1)-64*j=64 by omega];refine ar.o.mono ?_;rintro e w3 ⟨rfl,T3,u1,u2,u3,u4⟩;have eE:Hid (sZ w0 F gt (gf,()) {x with put:=dfK s (uc x.fo) x.put (j+1)} T w2 w3):=by
    refine⟨T3,?_,λr hr=>?_,ai.o.trans u3 a6.o,λr hr=>u4 r (bZ.o r hr)⟩
    .have e:dfK s (uc x.fo) x.put (j+1)=if eqB (secE s (1+j)) (sec (uc x.fo) j)=true then dfK s (uc x.fo) x.put j else putZ (dfK s (uc x.fo) x.put j) (1+j) (sec (uc x.fo) j):=by
      conv=>lhs;unfold dfK
      rw[i5]
     rw[e];exact u1
    .rcases u2 r hr with I|I
     .exact a6.o r I
     .exact zw (zv ai.o.size I)
   clear u1 u2 u3 u4 ar;go_wp2;go_roundw
   .exact⟨j+1,by omega,by go_num,eE⟩
   .simp[intOf];omega
  .obtain rfl:j=3:=(by omega);obtain⟨T1,t1,t2,t3,t4⟩:=HD.o;have ai:=za t3;have a6:=za t2;have bZ:=za t4;have b7:¬T g2:=λd=>(by have:=H.o.fin g2 d;have:=cv.o.1;omega);have aJ:=ad.o.trans (t3.to_below H.o.new ad.o.size);have aC:=(t3.block g2 cv.o.2.1 b7).trans eb.o;have bj:(RK x.rows.length x.rows).length=64:=Rt _ _ eT;have ah:uM wr (.slice (some ⟨g2,0,none⟩) 64 64) (RK x.rows.length x.rows):=rH bj aC (by show (u8s (RK x.rows.length x.rows)).toArray.toList.take 64=u8s (RK x.rows.length x.rows);rw[xU,zo (by rw[wd,bj];exact zL)]);have ar:=za (Uf HF.o aJ t1 4 (by have:=cS.o;omega) _ _ ah bj (by have:=ni s (uc x.fo) x.put 3;show (dfK s (uc x.fo) x.put 3).length<900;omega));rw[show ((4:Nat):Int)=4 from rfl]at ar;clear t1 t2 t3 t4 aJ aC ah bj b7;go_wp2_with fail
   refine ar.o.mono ?_;rintro e w3 ⟨rfl,T3,u1,u2,u3,u4⟩;have de:Hid (TxAt w3 w0 F gt (gf,()) {x with put:=ua x s} T3):=u1;have ct:Hid (Below w0 w0 w3):=(by have hk:=ai.o.trans u3 a6.o;exact ad.o.trans (hk.to_below H.o.new ad.o.size));clear u1 u2 u3 u4 ar HD ai a6 bZ aI cN d2 c5 cK HR HL;obtain⟨rv,gn,cn,gd,X,gv,E,pl,V⟩:=de.o.lies;obtain⟨c0,aw,aZ,a8,ac,ba,aY,a7⟩:=nw V.row;obtain⟨⟨gl,aW,aT,L,bh,E',O,FD,f1,f2,f3,f4,f5,f6,f7,f8,f9,ak,al,bq,bn,b3,bf,b1,b2⟩,bk,bL,bg,bi,bw,bx,cg⟩:=HF.o.below ct.o;obtain⟨d0,d1,dd,d9,b8,dp⟩:=sW f1;have fO:=ak.len (T:=90) Qw 3;have Q:=za ak;have cu:=za V.puts;have cI:=al.len;have dV:pl.length<=x.put.length+4:=(by rw[V.secs.len];have q1:=VR s (RK x.rows.length x.rows) (dfK s (uc x.fo) x.put 3);have q2:=ni s (uc x.fo) x.put 3;show (ua x s).length<=_;unfold ua;omega);have aU:Hid (O.length+pl.length<=2000):=za (by have:=d3.o;have:=cA.o;omega);have fM:=za al;have fh:Hid ((qN O pl).length=(qN s.todo (ua x s)).length):=(by have:=zQ List.length (OC V.secs.1 al.sec.1);show _=_;simpa using this);have M:=za V;have fg:=za de.o;have aP:=za f5;have J:=za f1;have U:Hid (gt<w3.heap.size/\gf<w3.heap.size/\X<w3.heap.size/\L<w3.heap.size/\gl<w3.heap.size):=⟨xB V.row,xB f1,V.puts.lt,ak.lt,xB f5⟩;have HC:Hid (w3.cell? (gt,0)=some (.pointer (some ⟨gf,0,none⟩))/\w3.cell? (gt,196)=some (.map (some X))/\w3.cell? (gf,1)=some (.pointer (some ⟨gl,0,none⟩))/\w3.cell? (gf,196)=some (.map (some L))):=⟨c0,ac,d1,b8⟩;clear V f1 f2 f3 f4 f5 f6 f7 f8 f9 ak al bq bn b3 bf b1 b2 bk bL bg bi bw bx cg aw aZ a8 ba aY a7 d0 dd d9 dp;go_wp2_with (at_range;refine mQ _ rfl _ _ rfl 3 38 intT Qw X pl rfl cu.o ?_;intro w4 cH cX el)
   have ea:=za (Cd zB cX zL (λq hq=>by cases hq));have eA:=za cH;clear cH cX el c0 ac d1 b8;simp only[Act.put,zP,yf,yb];go_loopw [9] (λnv wr=>∃(c:Nat) (C:List (Int×Value)) (aK:Nat),nv=.int .i64 c/\Hid (c=(qN O C).length)/\Hid (fy prog 3 wr X w3 pl C aK)/\Hid (Below w3 w3 wr)) (λ_ wr=>wr.rangeLeft X w3.heap.size)
   .exact⟨s.todo.length,[],pl.length,rfl,cI.symm,eA,ea⟩
   .obtain⟨c,C,aK,rfl,be,bb,ao⟩:=hrel;have bW:=bb.o.left_eq;have dD:=(ao.o.cell (p:=⟨gf,1,none⟩) U.o.2.1).trans HC.o.2.2.1;go_wp2_with (at_next;refine RF _ rfl _ rfl 3 intT X _ pl C aK rfl bb.o (λhp=>?qd) (λxk c' w' aG bK ax ay cr ab dg av co eO=>?qm);(case' qm=>(have bB:=za ab;have fK:(c:Int)<=3000:=(by have I:=be.o;have h2:=jb O C;have h3:=bb.o.done_len;have:=aU.o;omega);have dm:=za (Qk xk c' (fZ (p:=C) Q.o.2.1));have dv:Hid (getZ (qN O C) xk=getZ O xk):=Zo (λy hy d=>ay (by rw[<-d];exact yd.2 ⟨y,hy,rfl⟩));have bo:=za (Cd ao.o av ao.o.size (λq hq=>by injection hq with hq;omega));have dQ:=(Q.o.of_block (bo.o.block _ Q.o.lt)).look_ok (k:=xk) intT Qw (u8sZ w') bK;have eB:=(bo.o.cell (p:=⟨gf,196,none⟩) U.o.2.1).trans HC.o.2.2.2;have bD:=ab.left_eq;(cases ci:hasZ O xk)<;>(rw[ci]at dQ;clear ab av co ax ay))))
    .go_roundw
     .exact⟨c+1,_,aG,by go_num,by show _=_;rw[Sd,dm.o,hasZ,dv.o,show (getZ O xk).isSome=false from ci,zb (by simp),be.o],bB,bo⟩
     .rw[bW,bD];omega
    .go_roundw
     .exact⟨c,_,aG,rfl,by show _=_;rw[Sd,dm.o,hasZ,dv.o,show (getZ O xk).isSome=true from ci,ze rfl,be.o],bB,bo⟩
     .rw[bW,bD];omega
    .have eJ:=hp.length_eq;have bS:Hid (c=(qN s.todo (ua x s)).length):=(by show _=_;rw[be.o,<-fh.o];exact zQ List.length (OB hp bb.o.2.2.1));have cG:=za (xV ao.o aP.o);have a1:=ve M.o.row J.o (by decide);have bc:=za (ct.o.trans (ao.o.mono ct.o.size));have dx:=za (HF.o.below bc.o);have l:=za (M.o.below ao.o);have ap:=za (fg.o.below ao.o);have bz:=za HF.o.fin;have bd:Hid (jl wr F1 pl (ua x s)):=⟨⟨l.o.secs.1,λi I h2=>(l.o.secs.2 i I h2).mono zZ⟩,λy hy g hg d=>by obtain⟨i,I,rfl⟩:=wv hy;obtain⟨g',fL,fx,e1,_,_,e4,_⟩:=l.o.secs.2 i I (by have:=l.o.secs.len;rw[<-this];exact I);rw[e1]at hg;injection hg with hg;have fP:g'=g:=hg;have:=bz.o g d;omega⟩;clear bb bW dD eJ hp
     go_upto_if 93 with (go_at_call 143;refine (Gw cG.o).mono ?_;rintro e w' ⟨rfl,rfl⟩)
     go_cut [0,8] (λs0 s8 wx=>s0=.pointer (some ⟨gt,0,none⟩)/\s8=.pointer (some ⟨gf,0,none⟩)/\KeepJ w0 gt gf x s (tE x s) a F1 wx)
     case first=>
      by_cases aN:30<c
      .have bP:30<(c:Int):=(by omega);have bO:Hid (tE x s=ZA s):=(by show _=_;unfold tE;rw[ze (by rw[<-bS.o];exact aN)]);have aB:=eu.o (by rw[<-bS.o];exact aN);have cT:=za (Vx dx.o aB.g aB.k aB.q aB.w);clear aB;go_wp2_with fail
       refine cT.o.mono ?_;rintro e w6 ⟨rfl,cW,au⟩;have dZ:=za cW;have a4:=za au;clear cW au;go_wp2
       go_meet
       case rel=>
        have fI:∀i,(F1 i\/(wr.heap.size<=i/\i<w6.heap.size))->F1 i\/wr.heap.size<=i:=λi z=>z.imp id λh=>h.1;have bm:∀b,b<wr.heap.size->w0.heap.size<=b->w6.heap[b]?=wr.heap[b]? :=λb I h2=>a4.o.block b I λd=>yi (bz.o b d) (xn h2);have am:∀i,T3 i->w0.heap.size<=i/\i<wr.heap.size:=λi z=>⟨ap.o.new i z,ap.o.fin i z⟩;have bM:∀b,T3 b->w6.heap[b]?=wr.heap[b]? :=λb hb=>bm b (am b hb).2 (am b hb).1;refine⟨rfl,rfl,⟨_,T3,rv,gn,cn,gd,X,gv,E,pl,by rw[bO.o];exact dZ.o,⟨(bM gt ap.o.self).trans l.o.row,?_,?_,?_,l.o.dirt.of_block (bM gd l.o.td),l.o.puts.of_block (bM X l.o.tp),?_,l.o.ne,?_,l.o.tn,l.o.td,l.o.tp,l.o.tg⟩,λi z=>⟨λd=>?_,?_⟩,?_,λi z=>?_,ap.o.self⟩,?_⟩
        .exact Q4 l.o.rows (a4.o.mono λi _ z=>zu (af i z)) λi z=>z.elim (λh=>h.elim (λh=>zu (zu (af i h))) λh=>zw h.1) λh=>zu (zw h)
        .exact vE l.o.own λb hb=>bm b (l.o.own.lt b hb).2 (l.o.own.lt b hb).1
        .exact Vr l.o.nds (a4.o.mono λi _ z=>zu (af i z)) λi z=>z.elim (λh=>h.elim (λh=>zu (zu (af i h))) λh=>zw h.1) λh=>zu (zw h)
        .exact l.o.secs.keep λg cc I d=>bm g (xB d) I
        .exact vE l.o.gone λb hb=>bm b (l.o.gone.lt b hb).2 (l.o.gone.lt b hb).1
        .rcases d with d|d
         .exact yi (bz.o i d) (xn (am i z).1)
         .exact yi (am i z).2 (xn d.1)
        .exact zr (am i z).2 a4.o.size
        .exact bd.o.keep λg cc I d=>⟨a4.o.block g (xB d) I,λh2=>h2.elim I λh3=>yi (xB d) (xn h3.1)⟩
        .exact z.imp id λh=>zv bc.o.size h.1
        .exact (yK.of_below bc.o).step a4.o
      .have bP:¬30<(c:Int):=(by omega);have bO:Hid (tE x s=s):=(by show _=_;unfold tE;rw[zb (by rw[<-bS.o];exact aN)]);go_wp2
       go_meet
       case rel =>exact⟨rfl,rfl,⟨F1,T3,rv,gn,cn,gd,X,gv,E,pl,by rw[bO.o];exact dx.o,⟨l.o.row,l.o.rows.grow λi _ z=>z.imp (af i) id,l.o.own,l.o.nds.grow λi _ z=>z.imp (af i) id,l.o.dirt,l.o.puts,l.o.secs,l.o.ne,l.o.gone,l.o.tn,l.o.td,l.o.tp,l.o.tg⟩,λi z=>⟨λd=>yi (bz.o i d) (xn (ap.o.new i z)),ap.o.fin i z⟩,bd.o,λi z=>zu z,ap.o.self⟩,yK.of_below bc.o⟩
     case rest=>
      obtain⟨rfl,rfl,⟨F',T3,rv,gn,cn,gd,X,gv,E,pl,dC,V,am,d7,c6,fu⟩,ds⟩:=hcut;obtain⟨s1,cb⟩:=zD (tE x s);have em:Hid (N9 x s={s1 with fo:=x.fo,rows:=x.rows,nodes:=x.nodes,todo:=qN s1.todo (ua x s)}):=(by show _=_;rw[<-cb.o];rfl);rw[cb.o]at dC;obtain⟨⟨gl,aW,aT,L,bh,E',O,FD,f1,f2,f3,f4,f5,f6,f7,f8,f9,ak,al,bq,bn,b3,bf,b1,b2⟩,bk,bL,bg,bi,bw,bx,cg⟩:=dC;have Q:=za ak;have cu:=za V.puts;have dV:pl.length<=x.put.length+4:=(by rw[V.secs.len];have q1:=VR s (RK x.rows.length x.rows) (dfK s (uc x.fo) x.put 3);have q2:=ni s (uc x.fo) x.put 3;show (ua x s).length<=_;unfold ua;omega);have cI:O.length<=1000:=by
       rw[al.len,<-cb.o];unfold tE;split
       .exact yh _
       .exact d3.o
      have aU:Hid (O.length+pl.length<=2000):=za (by have:=cA.o;omega);have M:=za V;have ai:=za am;have bd:=za d7;have c4:=za c6;have eg:=za ds;have aP:=za f5;have J:=za f1;have U:Hid (gt<wc.heap.size/\gf<wc.heap.size/\X<wc.heap.size/\L<wc.heap.size/\gl<wc.heap.size):=⟨xB V.row,xB f1,V.puts.lt,ak.lt,xB f5⟩;have HC:=za ((sW f1).2.2.2.2.1);have f:Hid (uT wc a s1.dk s1.k FD/\(∀i,FD i->F' i)/\¬FD gl/\F' gl/\jl wc F' O s1.todo/\F' L/\L≠bh/\¬FD L/\MapL prog 3 wc bh (GL s1.held)/\F' bh/\¬FD bh):=⟨f2,f3,f4,f6,al,bq,bn,b3,bf,b1,b2⟩;have a3:Hid (F' gf/\(∀i,F' i->i<wc.heap.size)/\(s1.held.length<=1000/\∀y∈s1.held,0<=y.2/\y.2<=1000000)/\64<=s1.k/\s1.k<=256):=⟨bk,bg,bi,bw,bx⟩;have ac:=(nw V.row).2.2.2.2.1;have cw:Hid (x.nodes.length=32/\x.rows.length<=20):=⟨H.o.len,H.o.rows⟩;clear V f1 f2 f3 f4 f5 f6 f7 f8 f9 ak al bq bn b3 bf b1 b2 bk bL bg bi bw bx cg am d7 c6 ds;go_wp2_with (at_range;refine mQ _ rfl _ _ rfl 3 38 intT Qw X pl rfl cu.o ?_;intro w5 cB dF eF)
      have ck:=za (Cd zB dF zL (λq hq=>by cases hq));have dc:Hid (yK (λi=>i=L) wc w5):=yK.of_below ck.o;have dB:=za cB;obtain⟨r2,bN⟩:=zD wc.heap.size;have dO:Hid (MapL prog 3 w5 L (qN O [])):=Q.o.of_block (ck.o.block _ Q.o.lt);have dT:Hid (jl w5 F' (qN O []) (qN s1.todo [])):=f.o.2.2.2.2.1.keep λg cc I d=>⟨ck.o.block g (xB d),I⟩;rw[bN.o]at dB;have eS:wc.heap.size<=r2:=(by rw[bN.o];exact zL);have aO:Hid (L≠r2/\X≠L/\r2≠X):=⟨by have:=U.o.2.2.2.1;omega,λd=>(ai.o X M.o.tp).1 (by rw[d];exact f.o.2.2.2.2.2.1),by have:=U.o.2.2.1;omega⟩;clear cB dF eF ac;simp only[Act.put,zP,yf,yb];rw[bN.o];go_loopw [14] (λ_ wq=>∃(C:List (Int×Value)) (aK:Nat),Hid (fy prog 3 wq X r2 pl C aK)/\Hid (yK (λi=>i=L) wc wq)/\Hid (MapL prog 3 wq L (qN O C))/\Hid (jl wq F' (qN O C) (qN s1.todo (C.map λy=>(y.1,(getZ (ua x s) y.1).getD []))))) (λ_ wq=>wq.rangeLeft X r2)
      .exact⟨[],_,dB,dc,dO,dT⟩
      .obtain⟨dn,c9,a5,bV,bs,cO⟩:=hrel;have cL:=a5.o.left_eq;have dt:∀W,yK (λi=>i=L) wc W->W.cell? (gf,196)=some (.map (some L)):=λW hk=>(hk.cell U.o.2.1 (λd=>by have I:=J.o;exact xM I Q.o d)).trans HC.o;have ee:=za dt;clear dt;have cM:(qN O dn).length<1000000:=(by have I:=jb O dn;have h2:=a5.o.done_len;have:=aU.o;omega);have fb:=za cM;clear cM;have a9:∀(w'),wr.grownBy w' (some r2)->yK (λi=>i=L) wc w'/\w'.cell? (gf,196)=some (.map (some L))/\(∀b,b<wr.heap.size->b≠r2->w'.heap[b]?=wr.heap[b]?)/\MapL prog 3 w' L (qN O dn):=λw' av=>(by have cq:=yK.grown (F:=λi=>i=r2) av (λq hq=>by injection hq with hq;exact hq.symm);have aV:=bV.o.trans cq (λi z=>zw (by rw[z];exact eS));exact⟨aV,ee.o w' aV,λb I h2=>cq.block b I h2,bs.o.of_block (cq.block L bs.o.lt aO.o.1)⟩);have ew:=za a9;clear a9;go_wp2_with (first
        | (at_next;refine RF _ rfl _ rfl 3 intT X _ pl dn c9 rfl a5.o (λhp=>?qd2) (λxk c' w' aG bK ax ay cr ab dg av co eO=>?qm2);(case' qm2=>(have ed:=za ax;have eq:=za bK;have eX:=za dg;have bH:=za ab;obtain⟨aV,eB,b9,cE⟩:=ew.o w' av;have dX:=za aV;have ej:=za b9;have dA:=za cE;clear ab av co ax ay aV b9 cE)))
        | (at_mapUpdate;refine P4 _ rfl _ _ _ _ rfl 3 38 intT Qw L (qN O dn) xk c' rfl dA.o fb.o rfl rfl eq.o ?_;intro w6 fc eV))
       .have au:yK (λi=>i=L) w' w6:=yK.grown eV.grown (λr hr=>by injection hr with hr;exact hr.symm);have dz:=za (bH.o.of_block (au.block X bH.o.map.lt aO.o.2.1) (au.block r2 bH.o.lt (yA aO.o.1)));have cD:=dX.o.step au;have e1:qN O (dn++[(xk,c')])=putZ (qN O dn) xk c':=(by unfold qN;rw[xf];rfl);have ec:Hid (MapL prog 3 w6 L (qN O (dn++[(xk,c')]))):=(by show _;rw[e1];exact fc);have eo:Hid (jl w6 F' (qN O (dn++[(xk,c')])) (qN s1.todo ((dn++[(xk,c')]).map λy=>(y.1,(getZ (ua x s) y.1).getD [])))):=by
         have e2:qN s1.todo ((dn++[(xk,c')]).map λy=>(y.1,(getZ (ua x s) y.1).getD []))=putZ (qN s1.todo (dn.map λy=>(y.1,(getZ (ua x s) y.1).getD []))) xk ((getZ (ua x s) xk).getD []):=(by unfold qN;rw[yo,xf];rfl);show _;rw[e1,e2];have bX:=ux a5.o.1 ed.o;rcases M.o.secs.get (k:=xk) with⟨q1,_⟩|⟨v,D,q1,q2,q3⟩
         .rw[bX]at q1;cases q1
         .rw[bX]at q1;injection q1 with q1;subst q1;have fi:getZ (ua x s) xk=some D:=q2;rw[fi];refine jl.put (cO.o.keep λg cc h9 d=>?_) ?_ ?_
          .have I:=ej.o g (xB d) (a5.o.not_cells d);have h2:=I.trans d;exact⟨(au.block g (xB h2) (xM h2 dA.o)).trans I,h9⟩
          .exact P8 (q3.mono zZ) λg cc _ d=>cD.block g (xB d) (xM d Q.o)
          .exact λg hg=>bd.o.out _ (pU bX) g hg
        have du:=dz.o.left_eq;exact⟨⟨_,_,_,_,_,_,_,_,_,_,_,_,_,⟨_,_,dz,za cD,ec,eo⟩,rfl⟩,by rw[cL,du];exact eX.o⟩
       .have aD:∀(g:Nat) (c) (t),wc.heap[g]?=some (.cells c t)->wr.heap[g]?=some (.cells c t):=λg c t d=>(bV.o.block g (xB d) (xM d Q.o)).trans d;have aQ:=aD gt _ _ M.o.row;have cP:=aD gf _ _ J.o;obtain⟨A2,bu⟩:=zA (encF x.fo);have aE:Hid (A2.size=192):=(by rw[bu.o];exact vX _);have dj:Hid (A2.all (·.oneCell')=true):=(by rw[bu.o];exact pS _);obtain⟨eR,aS,aL,bI,bY,bQ,bU,cp⟩:=nw aQ;obtain⟨R2,c8⟩:=zD (txR (gf,()) x.fo rv (.slice (some ⟨gn,0,none⟩) 32 cn) (.map (some gd)) (.map (some X)) gv x.full x.fake);have cY:Hid (∀j,j<A2.size->R2[1+j]?=A2[j]?):=(by rw[<-c8.o,bu.o];exact PC _ _ _ _ _ _ _ _ _);have bA:wr.heap[gt]?=some (.cells R2 92):=(by rw[<-c8.o];exact aQ);have c3:=za bA;have a1:=ve aQ cP (by decide);have dq:Hid (wr.cell? (gt,193)=some rv/\wr.cell? (gt,194)=some (.slice (some ⟨gn,0,none⟩) 32 cn)):=⟨aS,aL⟩;have cF:∃q n c,rv=.slice q n c:=by
         obtain⟨_,⟨hv,a0,c0,e⟩|⟨g,o,c,e,_⟩⟩:=M.o.rows.now
         .exact⟨_,_,_,e⟩
         .exact⟨_,_,_,e⟩
        obtain⟨fk,dP,dU,ex⟩:=cF;have aX:=xB aQ;have bT:=za cP;clear eR aS aL bI bY bQ bU cp aQ bA;refine RX (by kernel_rfl) (by kernel_rfl) (λD _ u=>yK (λi=>i=gf) wr u/\u.heap[gf]?=some (.cells (fsR a (gl,()) (if D 17=true then x.fo else s1.fo) (if D 20=true then rv else aW) (if D 23=true then .slice (some ⟨gn,0,none⟩) 32 cn else aT) (.map (some L)) (.map (some bh))) 97))
         136 (λi=>if i<17 then 115+i else if i=17\/i=20\/i=23 then 1000+i else if i<20 then 114+i else if i<23 then 113+i else 2000+i) (kpF gt gf A2 rv (.slice (some ⟨gn,0,none⟩) 32 cn)) (λk v=>(k=0/\v=.pointer (some ⟨gt,0,none⟩))\/(k=8/\v=.pointer (some ⟨gf,0,none⟩))) (λi j fz=>?_) (λi k v hk=>?_) (by kernel_rfl) ⟨rfl,rfl,λk v hk=>?_,(yK.refl _ _).drew,bT.o⟩ ?_ ?_
        .split<;>split<;>(try split)<;>(try split)<;>(try split)<;>(try split)<;>(try split)<;>(try split)<;>omega
        .have:k<115:=(by rcases hk with⟨rfl,_⟩|⟨rfl,_⟩<;>omega);split<;>(try split)<;>(try split)<;>(try split)<;>omega
        .rcases hk with⟨rfl,rfl⟩|⟨rfl,rfl⟩<;>rfl
        .intro D b u N i o m P B;have hpt:=N.old 0 _ (zu ⟨rfl,rfl⟩);have cd:=N.old 8 _ (zw ⟨rfl,rfl⟩);obtain⟨S,Y⟩:=N.j;have es:∀n,n≠17->n≠20->n≠23->upd D n 17=D 17/\upd D n 20=D 20/\upd D n 23=D 23:=λn I h2 h3=>⟨rQ (yA I),rQ (yA h2),rQ (yA h3)⟩;have Z:∀n,n≠17->n≠20->n≠23->yK (λi=>i=gf) wr u/\u.heap[gf]?=some (.cells (fsR a (gl,()) (if upd D n 17=true then x.fo else s1.fo) (if upd D n 20=true then rv else aW) (if upd D n 23=true then .slice (some ⟨gn,0,none⟩) 32 cn else aT) (.map (some L)) (.map (some bh))) 97):=λn I h2 h3=>by obtain⟨e1,e2,e3⟩:=es n I h2 h3;rw[e1,e2,e3];exact⟨S,Y⟩
         match i,m,P,B with
         | 0,m,P,B=>
          simp only[zf,zm]at m;subst m;exact tj (.tmp 8) rfl ⟨_,rfl,(λd=>yi d (by decide)),cd,λ_ _ _=>Z 0 (by omega) (by omega) (by omega)⟩
         | 1,m,P,B=>
          simp only[zf,zh,zm]at m;subst m;exact tj (.tmp 8) rfl ⟨_,rfl,(λd=>yi d (by decide)),cd,λ_ _ _=>Z 1 (by omega) (by omega) (by omega)⟩
         | 2,m,P,B=>
          simp only[zf,zh,zm]at m;subst m;exact tj (.tmp 8) rfl ⟨_,rfl,(λd=>yi d (by decide)),cd,λ_ _ _=>Z 2 (by omega) (by omega) (by omega)⟩
         | 3,m,P,B=>
          simp only[zf,zh,zm]at m;subst m;exact tj (.tmp 0) rfl ⟨_,rfl,(λd=>yi d (by decide)),hpt,λ_ _ _=>Z 3 (by omega) (by omega) (by omega)⟩
         | 4,m,P,B=>
          simp only[zf,zh,zm]at m;subst m;have e3:=N.fact 3 (B ⟨3,.data⟩ (by simp) rfl);exact kU (.tmp 118) rfl ⟨gt,0,none⟩ e3 ⟨_,rfl,(λd=>yi d (by decide)),rfl,λ_ _ _=>Z 4 (by omega) (by omega) (by omega)⟩
         | 5,m,P,B=>
          simp only[zf,zh,zm]at m;subst m;have e4:=N.fact 4 (B ⟨4,.data⟩ (by simp) rfl);exact vI (v:=.pointer (some ⟨gt,1,none⟩)) (w':=u) (by unfold execOp;simp only[Act.eval];rw[show b.tmps.getD 119 undef=_ from e4];simp[go_sem]) ⟨_,rfl,(λd=>yi d (by decide)),rfl,λ_ _ _=>Z 5 (by omega) (by omega) (by omega)⟩
         | 6,m,P,B=>
          simp only[zf,zh,zm]at m;subst m;have e5:=N.fact 5 (B ⟨5,.data⟩ (by simp) rfl);refine wp_load_mid 85 (.tmp 120) rfl gt 1 e5 A2.toList _ (jD ((S.block gt aX a1).trans c3.o) cY.o) forT rfl (by rw[ye,aE.o];exact forI) ?_;exact⟨_,rfl,(λd=>yi d (by decide)),rfl,λ_ _ _=>Z 6 (by omega) (by omega) (by omega)⟩
         | 7,m,P,B=>
          simp only[zf,zh,zm]at m;subst m;exact tj (.tmp 0) rfl ⟨_,rfl,(λd=>yi d (by decide)),hpt,λ_ _ _=>Z 7 (by omega) (by omega) (by omega)⟩
         | 8,m,P,B=>
          simp only[zf,zh,zm]at m;subst m;have e7:=N.fact 7 (B ⟨7,.data⟩ (by simp) rfl);exact kU (.tmp 122) rfl ⟨gt,0,none⟩ e7 ⟨_,rfl,(λd=>yi d (by decide)),rfl,λ_ _ _=>Z 8 (by omega) (by omega) (by omega)⟩
         | 9,m,P,B=>
          simp only[zf,zh,zm]at m;subst m;have e8:=N.fact 8 (B ⟨8,.data⟩ (by simp) rfl);exact vI (v:=.pointer (some ⟨gt,193,none⟩)) (w':=u) (by unfold execOp;simp only[Act.eval];rw[show b.tmps.getD 123 undef=_ from e8];simp[go_sem]) ⟨_,rfl,(λd=>yi d (by decide)),rfl,λ_ _ _=>Z 9 (by omega) (by omega) (by omega)⟩
         | 10,m,P,B=>
          simp only[zf,zh,zm]at m;subst m;have e9:=N.fact 9 (B ⟨9,.data⟩ (by simp) rfl);have d:=(S.cell aX a1).trans dq.o.1;exact vI (v:=rv) (w':=u) (by unfold execOp;simp only[Act.eval];rw[show b.tmps.getD 124 undef=_ from e9];simp[go_sem,d]) ⟨_,rfl,(λd=>yi d (by decide)),rfl,λ_ _ _=>Z 10 (by omega) (by omega) (by omega)⟩
         | 11,m,P,B=>
          simp only[zf,zh,zm]at m;subst m;exact tj (.tmp 0) rfl ⟨_,rfl,(λd=>yi d (by decide)),hpt,λ_ _ _=>Z 11 (by omega) (by omega) (by omega)⟩
         | 12,m,P,B=>
          simp only[zf,zh,zm]at m;subst m;have ff:=N.fact 11 (B ⟨11,.data⟩ (by simp) rfl);exact kU (.tmp 126) rfl ⟨gt,0,none⟩ ff ⟨_,rfl,(λd=>yi d (by decide)),rfl,λ_ _ _=>Z 12 (by omega) (by omega) (by omega)⟩
         | 13,m,P,B=>
          simp only[zf,zh,zm]at m;subst m;have eM:=N.fact 12 (B ⟨12,.data⟩ (by simp) rfl);exact vI (v:=.pointer (some ⟨gt,194,none⟩)) (w':=u) (by unfold execOp;simp only[Act.eval];rw[show b.tmps.getD 127 undef=_ from eM];simp[go_sem]) ⟨_,rfl,(λd=>yi d (by decide)),rfl,λ_ _ _=>Z 13 (by omega) (by omega) (by omega)⟩
         | 14,m,P,B=>
          simp only[zf,zh,zm]at m;subst m;have eU:=N.fact 13 (B ⟨13,.data⟩ (by simp) rfl);have d:=(S.cell aX a1).trans dq.o.2;exact vI (v:=(.slice (some ⟨gn,0,none⟩) 32 cn)) (w':=u) (by unfold execOp;simp only[Act.eval];rw[show b.tmps.getD 128 undef=_ from eU];simp[go_sem,d]) ⟨_,rfl,(λd=>yi d (by decide)),rfl,λ_ _ _=>Z 14 (by omega) (by omega) (by omega)⟩
         | 15,m,P,B=>
          simp only[zf,zh,zm]at m;subst m;have e0:=N.fact 0 (B ⟨0,.data⟩ (by simp) rfl);exact kU (.tmp 115) rfl ⟨gf,0,none⟩ e0 ⟨_,rfl,(λd=>yi d (by decide)),rfl,λ_ _ _=>Z 15 (by omega) (by omega) (by omega)⟩
         | 16,m,P,B=>
          simp only[zf,zh,zm]at m;subst m;have ez:=N.fact 15 (B ⟨15,.data⟩ (by simp) rfl);exact vI (v:=.pointer (some ⟨gf,2,none⟩)) (w':=u) (by unfold execOp;simp only[Act.eval];rw[show b.tmps.getD 130 undef=_ from ez];simp[go_sem]) ⟨_,rfl,(λd=>yi d (by decide)),rfl,λ_ _ _=>Z 16 (by omega) (by omega) (by omega)⟩
         | 17,m,P,B=>
          simp only[zf,zh,zm]at m;subst m;have dR:=N.fact 16 (B ⟨16,.data⟩ (by simp) rfl);have e6:=N.fact 6 (B ⟨6,.data⟩ (by simp) rfl)
          skip
          refine L3 85 (.tmp 131) (.tmp 121) rfl gf 2 A2 dR e6 _ _ (fsR a (gl,()) x.fo (if D 20=true then rv else aW) (if D 23=true then .slice (some ⟨gn,0,none⟩) 32 cn else aT) (.map (some L)) (.map (some bh))) Y (by rw[aE.o];exact forI) (by rw[aE.o,kH];omega) dj.o (by rw[bu.o];exact Xw _ _ _ _ _ _ _ _) ?_;refine⟨_,rfl,λ_=>rfl,rfl,λ_ _ _=>⟨S.step (yK.setRow (F:=λi=>i=gf) rfl _),?_⟩⟩;rw[O3,ze rfl,rQ (by omega),rQ (by omega)];exact ya _ _ _ _ _ _ Y
         | 18,m,P,B=>
          simp only[zf,zh,zm]at m;subst m;have e1:=N.fact 1 (B ⟨1,.data⟩ (by simp) rfl);exact kU (.tmp 116) rfl ⟨gf,0,none⟩ e1 ⟨_,rfl,(λd=>yi d (by decide)),rfl,λ_ _ _=>Z 18 (by omega) (by omega) (by omega)⟩
         | 19,m,P,B=>
          simp only[zf,zh,zm]at m;subst m;have ey:=N.fact 18 (B ⟨18,.data⟩ (by simp) rfl);exact vI (v:=.pointer (some ⟨gf,194,none⟩)) (w':=u) (by unfold execOp;simp only[Act.eval];rw[show b.tmps.getD 132 undef=_ from ey];simp[go_sem]) ⟨_,rfl,(λd=>yi d (by decide)),rfl,λ_ _ _=>Z 19 (by omega) (by omega) (by omega)⟩
         | 20,m,P,B=>
          simp only[zf,zh,zm]at m;subst m;have fd:=N.fact 19 (B ⟨19,.data⟩ (by simp) rfl);have dY:=N.fact 10 (B ⟨10,.data⟩ (by simp) rfl);subst ex;refine SP 87 (.tmp 133) (.tmp 125) rfl gf 194 fk dP dU fd dY (by kernel_rfl) _ _ Y (by rw[kH];omega) ?_;refine⟨_,rfl,λ_=>rfl,rfl,λ_ _ _=>⟨S.step (yK.setCell (F:=λi=>i=gf) (p:=⟨gf,194,none⟩) rfl _),?_⟩⟩;rw[O3,ze rfl,rQ (by omega),rQ (by omega),<-GX _ _ _ (if D 20=true then _ else aW) _ _ _ _];exact zT _ _ 194 _ _ _ Y
         | 21,m,P,B=>
          simp only[zf,zh,zm]at m;subst m;have e2:=N.fact 2 (B ⟨2,.data⟩ (by simp) rfl);exact kU (.tmp 117) rfl ⟨gf,0,none⟩ e2 ⟨_,rfl,(λd=>yi d (by decide)),rfl,λ_ _ _=>Z 21 (by omega) (by omega) (by omega)⟩
         | 22,m,P,B=>
          simp only[zf,zh,zm]at m;subst m;have ek:=N.fact 21 (B ⟨21,.data⟩ (by simp) rfl);exact vI (v:=.pointer (some ⟨gf,195,none⟩)) (w':=u) (by unfold execOp;simp only[Act.eval];rw[show b.tmps.getD 134 undef=_ from ek];simp[go_sem]) ⟨_,rfl,(λd=>yi d (by decide)),rfl,λ_ _ _=>Z 22 (by omega) (by omega) (by omega)⟩
         | 23,m,P,B=>
          simp only[zf,zh,zm]at m;subst m;have dS:=N.fact 22 (B ⟨22,.data⟩ (by simp) rfl);have dW:=N.fact 14 (B ⟨14,.data⟩ (by simp) rfl);refine SP 88 (.tmp 135) (.tmp 129) rfl gf 195 (some ⟨gn,0,none⟩) 32 cn dS dW (by kernel_rfl) _ _ Y (by rw[kH];omega) ?_;refine⟨_,rfl,λ_=>rfl,rfl,λ_ _ _=>⟨S.step (yK.setCell (F:=λi=>i=gf) (p:=⟨gf,195,none⟩) rfl _),?_⟩⟩;rw[O3,ze rfl,rQ (by omega),rQ (by omega),<-DJ _ _ _ _ (if D 23=true then _ else aT) _ _ _];exact zT _ _ 195 _ _ _ Y
        .intro D b u N aA;obtain⟨S,Y⟩:=N.j;rw[ze (aA 17 (by simp)),ze (aA 20 (by simp)),ze (aA 23 (by simp))]at Y;rename_i K hK;refine hK _ _ (wp_seq (wp_region_lit (tQ rfl λK2 eN=>Rg (.const (.int .i64 0)) rfl (eN _ _ ?_))));have e3:(b.put (some 2) (.int .i64 0)).tmps[2]?=some (.int .i64 0):=(by show (b.tmps.setIfInBounds 2 (.int .i64 0))[2]?=_;rw[yH,ze rfl,ze (by rw[N.size];omega)]);refine wp_ret ?_;have cs:=(bV.o.mono λi _ z=>zu z).step (S.mono λi _ z=>zw z);have aH:yK F' wc u:=cs.mono λi _ z=>by
          rcases z with z|z
          .rw[z];exact f.o.2.2.2.2.2.1
          .rw[z];exact a3.o.1
         have fn:=xB bT.o;have eC:L≠gf:=λd=>xM J.o Q.o d.symm;have eh:=ve aP.o J.o (by decide);have df:bh≠gf:=λd=>xM J.o f.o.2.2.2.2.2.2.2.2.1 d.symm;have c7:∀i,T3 i->¬F' i:=λi z=>(ai.o i z).1;have cV:∀g,g<wc.heap.size->g≠L->g≠gf->u.heap[g]?=wc.heap[g]? :=λg I h2 h3=>cs.block g I (λd=>d.elim h2 h3);have cQ:FsAt u gf {s1 with fo:=x.fo,rows:=x.rows,nodes:=x.nodes,todo:=qN s1.todo (ua x s)} F' a:=by
          refine⟨⟨gl,rv,.slice (some ⟨gn,0,none⟩) 32 cn,L,bh,E,qN O dn,(λi=>FD i/\i≠gf),Y,?_,λi z=>f.o.2.1 i z.1,λd=>f.o.2.2.1 d.1,?_,f.o.2.2.2.1,?_,?_,?_,?_,?_,f.o.2.2.2.2.2.1,f.o.2.2.2.2.2.2.1,λd=>f.o.2.2.2.2.2.2.2.1 d.1,?_,f.o.2.2.2.2.2.2.2.2.2.1,λd=>f.o.2.2.2.2.2.2.2.2.2.2 d.1⟩,a3.o.1,cw.o.1,λi z=>zr (a3.o.2.1 i z) aH.size,a3.o.2.2.1,a3.o.2.2.2.1,a3.o.2.2.2.2,cw.o.2⟩
          .exact (f.o.1.without J.o (by decide) (by decide) (by decide)).keep cs λi z d=>by
            rcases d with d|d
            .rw[d]at z;exact f.o.2.2.2.2.2.2.2.1 z.1
            .exact z.2 d
          .exact (cV gl U.o.2.2.2.2 (λd=>xM aP.o Q.o d) eh).trans aP.o
          .exact (M.o.rows.grow λi _ z=>zu z).keep aH
          .have hE:E.length=32:=(by rw[M.o.nds.1];exact cw.o.1);have I:=iS (G:=F') M.o.own (λb hb=>by injection hb with hb;rw[<-hb];exact c7 _ M.o.tn);rw[hE];exact (I.keep aH).mono λw' eD=>uq.of_owns eD
          .exact (M.o.nds.grow λi _ z=>zu z).keep aH
          .exact bs.o.of_block (S.block L bs.o.lt eC)
          .have e:qN s1.todo (ua x s)=qN s1.todo (dn.map λy=>(y.1,(getZ (ua x s) y.1).getD [])):=by
            have I:=D4 (put:=ua x s) ([]:List Int) M.o.secs.1 M.o.puts.2.1;have h2:(dn.map λy=>(y.1,(getZ (ua x s) y.1).getD ([]))).Perm (ua x s):=by
             have:=hp.map λy=>(y.1,(getZ (ua x s) y.1).getD ([]:List Int))
             rwa [I]at this
            refine (OB h2 ?_).symm;rw[vo];exact a5.o.2.2.1
           rw[e];exact cO.o.keep λg cc h9 d=>⟨S.block g (xB d) (λeY=>by rw[eY,bT.o]at d;injection d with d;injection d with _ d;exact yi d (by decide)),h9⟩
          .exact f.o.2.2.2.2.2.2.2.2.1.of_block (cV bh f.o.2.2.2.2.2.2.2.2.1.lt (yA f.o.2.2.2.2.2.2.1) df)
         refine yE (v:=.int .i64 0) ?_ N.dfs ⟨rfl,F',by rw[em.o];exact cQ,c4.o,eg.o.trans aH λi z=>c4.o i z⟩
         .simp[results,results102,go_sem,e3];intro d;have:=N.size;omega
structure EndOk (x:Tx) (s:Fs):Prop where
 nd:∀X∈x.nodes,QG X=0
 gone:∀p∈x.gone,0<=p/\p<256
 rf:fD (endT s.k x).fo=0
 rq:ZQ x.rows=0
 sync:30<(qN s.todo (ua (endT s.k x) s)).length->WV s
def endE (s:Fs) (x:Tx):Int:=if Qy s x=false then 16 else if (vi s.k x 16).full=true then 6 else 0
def endS (s:Fs) (x:Tx):Fs:=if endE s x=0 then N9 (endT s.k x) s else s
theorem Fm (h:∀y∈x.dirty,y.2=.bool true) (k):(getZ x.dirty k).getD (.bool false)=.bool (getZ x.dirty k).isSome:=by
 cases a:getZ x.dirty k with
 | none=>rfl
 | some v=>exact h _ (pU a)
def epL (gt gp j:Nat) (p:Int) (ga gb:Nat):List (Option Value):=
 let t:Option Value:=some (.pointer (some ⟨gt,0,none⟩))
 let o:Option Value:=some (.pointer (some ⟨gt,1,none⟩))
 [t,t,some (.pointer (some ⟨gt,196,none⟩)),some (.map (some gp)),t,some (.int .i64 j),t,o,o,o,some (.pointer (some (gt,1+j))),some (.int .i64 p),some (.slice (some ⟨ga,0,none⟩) 32 32),some (.slice (some ⟨gb,0,none⟩) 32 32),none]
def epF (gt gp j:Nat) (p:Int) (B ga gb:Nat) (D:List Int) (i:Nat) (v:Value) (u:World):Prop:=atL (epL gt gp j p ga gb) i v/\(i=14->js u B v D)
theorem Fc {j:Nat} {p:Int} {ga gb:Nat} (i) (v) (u u':World) (c:Below u u u') (h:epF gt gp j p B ga gb D i v u):epF gt gp j p B ga gb D i v u':=
 ⟨h.1,λb=>P8 (h.2 b) λg _ _ a=>c.block g (xB a)⟩
theorem KG {a b:Bool} (h:(a||b)=true):a=true\/(a=false/\b=true):=by cases a<;>simp_all
theorem mV.full {fp:Value} {rv:Value} {gn cn gd:Nat} {gv:Value} (h:mV w B F T gt fp x rv gn cn gd gp gv E pl) (j) (a:j<16):w.cell? ⟨gt,1+j,none⟩=some (.int .i64 (x.fo.nd 0 j)):=by rw[zC h.row,mS _ _ _ _ _ _ _ _ _ _ (by omega)];rw[K8,zb (by omega),ze (by omega)];rw[nu,show (1+j-1) / 48=0 by omega,show (1+j-1)%48=j by omega,ze a]
theorem CD (hf:FsAt w0 gf s F1 a) (hb:Below w0 w0 w) (h:TxAt w w0 F gt (gf,()) x T) (av:∀i,F1 i->F i)
 (a1:∀X∈s.nodes,X.P.length<=8) (a2:∀X∈x.nodes,X.P.length<=8) (ad:∀y∈x.dirty,y.2=.bool true) (ah:256<=x.fake/\x.fake<900000) (ap:∀i,i<16->0<=x.fo.nd 0 i/\x.fo.nd 0 i<=x.fake) (aA:s.todo.length<=1000) (aE:x.put.length<=800)
 (hok:Qy s x=true->(vi s.k x 16).full=false->EndOk x s):
 Calls prog 46 #[(gt,())] w
  (ρ (endE s x:Int) λw'=>∃F',FsAt w' gf (endS s x) F' a/\(∀i,F' i->F1 i\/w0.heap.size<=i)/\yK F1 w0 w'):=by
 have H:=za h;have HF:=za hf;have ay:=za hb;have cu:=za (Kg h (hf.below hb) a1 a2);have bO:=za (Fm ad);have ds:=za (Uo (k:=s.k) hf.k1 ah.1 ap);have dh:=za ah;have cS:=za hok;have cM:=za av;have aX:Hid (∀W,Below w0 w0 W->endE s x≠0->∃F',FsAt W gf (endS s x) F' a/\(∀i,F' i->F1 i\/w0.heap.size<=i)/\yK F1 w0 W):=λW hW he=>by unfold endS;rw[zb he];exact⟨F1,HF.o.below hW,λi hi=>zu hi,yK.of_below hW⟩
 obtain⟨z,HZ⟩:=zD (Qy s x);rw[HZ.o]at cu;clear hf h hb ad ap hok;go_enter func46,ntmps46;go_wp2_with fail
 refine cu.o.mono ?_;rintro e w1 ⟨rfl,b5⟩;have dm:=za b5;have cW:=za (ay.o.trans (b5.mono ay.o.size));clear b5;cases z with
 | false=>
  have HE:Hid (endE s x=16):=by show _=_;unfold endE;rw[HZ.o,ze rfl]
  have HR:=za (aX.o w1 cW.o (by rw[HE.o];decide));go_wp2;go_ret;exact⟨by rw[HE.o];rfl,HR.o⟩
 | true=>
 go_wp2;go_loopw [14] (λiv wr=>∃j:Nat,j<=16/\iv=.int .i64 j/\Hid (sZ w0 F gt (gf,()) (vi s.k x j) T w wr)) (λiv _=>16-(intOf iv).toNat)
 .exact⟨0,by omega,rfl,sZ.same H.o dm.o⟩
 .obtain⟨j,hj,rfl,aL⟩:=hrel;obtain⟨y,Hy⟩:=zD (vi s.k x j);obtain⟨q1,q2,q3,q4,q5⟩:=ds.o j hj;obtain⟨s1,s2,s3,s4,s5⟩:=rx s.k x j;rw[Hy.o]at aL q1 q2 q3 q4 q5 s1 s2 s3 s4 s5;have aB:Hid (256<=y.fake/\y.fake<950000/\(∀i,i<16->0<=y.fo.nd 0 i/\y.fo.nd 0 i<=y.fake)):=⟨q1,by have:=dh.o;omega,q4⟩;have dL:=za s2;clear q1 q2 q3 q4 q5 s1 s2 s3 s4 s5;obtain⟨T1,t1,t2,t3,t4⟩:=aL.o;have B:=za t1;have O:Hid ((∀i,T1 i->T i\/w.heap.size<=i)/\yK T w wr/\∀i,T i->T1 i):=⟨t2,t3,t4⟩;have ak:=za (ay.o.trans (t3.to_below H.o.new ay.o.size));obtain⟨rv,S,cn,gd,gp,gv,E,pl,hl⟩:=t1.lies;obtain⟨c0,M,I,V,t,J,ac,N⟩:=nw hl.row;clear t1 t2 t3 t4;by_cases Y:j<16
  .have aD:(j:Int)<16:=(by omega);have aa:=hl.dirt.look (k:=2*(j:Int)+1) intT RS (kt wr) (by unfold InZ;omega);have ae:=hl.dirt.look (k:=2*(j:Int)+2) intT RS (kt wr) (by unfold InZ;omega);rw[dL.o,bO.o]at aa ae;have af:Hid (Nt x j=((getZ x.dirty (2*j+1)).isSome||(getZ x.dirty (2*j+2)).isSome)):=za rfl;obtain⟨b1,bq⟩:=zD ((getZ x.dirty (2*(j:Int)+1)).isSome);obtain⟨b2,bt⟩:=zD ((getZ x.dirty (2*(j:Int)+2)).isSome);rw[bq.o]at aa af;rw[bt.o]at ae af;have i1:=zW (2*j) (by omega);have i2:=zW (2*j+1) (by omega);have i3:=zW (2*j+2) (by omega);obtain⟨d,Hd⟩:=zD (Nt x j);rw[Hd.o]at af;have HN:Hid (vi s.k x (j+1)=if d=true then oh s.k y j else y):=(by show (if Nt x j=true then oh s.k (vi s.k x j) j else vi s.k x j)=_;rw[Hd.o,Hy.o]);have HL:=za hl;clear hl c0 M I t J ac N;have hd:=af.o;cases d with
   | false=>
    obtain⟨rfl,rfl⟩:b1=false/\b2=false:=vO.1 hd.symm;have HR:Hid (sZ w0 F gt (gf,()) (vi s.k x (j+1)) T w wr):=(by show _;rw[HN.o];exact aL.o);clear hd;go_wp2;go_roundw
    .exact⟨j+1,by omega,by go_num,HR⟩
    .simp[intOf];omega
   | true=>
    have a7:=KG hd.symm;clear hd;obtain⟨p,Hp⟩:=zD (y.fo.nd 0 j);obtain⟨p',o',HO⟩:∃p' o',Hid (ownU y.ow s.k p=(p',o')):=⟨_,_,za rfl⟩;have aR:=aB.o.2.2 j Y;rw[Hp.o]at aR;have cK:Hid (o'.fo.nd=y.fo.nd):=(by show _=_;have h1:=Vn y.ow s.k p;rw[HO.o]at h1;exact h1);have d2:Hid (∀W,Below wr wr W->Calls prog 100 #[(gt,()),p] W
     (ρ p' λw'=>sZ w0 F gt (gf,()) (y.wow o') T1 W w')):=λW hW=>by
     have h1:=Kn HF.o (ak.o.trans (hW.mono ak.o.size)) (B.o.below hW) (by have:=aB.o;omega) p (by have:=aB.o;omega);rw[HO.o]at h1;exact h1
    have HS:Hid (∀W0 W,Below wr wr W0->sZ w0 F gt (gf,()) (y.wow o') T1 W0 W->(W.cell? (gt,1+j)=some (.int .i64 p)/\W.frozen? (gt,1+j)=false)/\sZ w0 F gt (gf,()) (vi s.k x (j+1)) T w (W.setCell (gt,1+j) (.int .i64 p'))):=λW0 W hW cX=>by
     obtain⟨T2,u1,u2,u3,u4⟩:=cX;obtain⟨db,dI,dr,dD,dg,dM,E2,eF,aM⟩:=u1.lies;refine⟨⟨?_,zF aM.row⟩,?_⟩
     .rw[aM.full j Y];show some (Value.int .i64 (o'.fo.nd 0 j))=_;rw[cK.o,Hp.o]
     .have bG:(W.setCell (gt,1+j) (.int .i64 p')).heap[gt]?=some (.cells (txR (gf,()) (ndF (y.wow o').fo j p') db (.slice (some ⟨dI,0,none⟩) 32 dr) (.map (some dD)) (.map (some dg)) dM (y.wow o').full (y.wow o').fake) 92):=(by rw[<-txR_nd _ _ _ _ _ _ _ _ _ j Y];exact zT _ _ (1+j) _ _ _ aM.row);have h5:=aM.putHas u1 (ndF (y.wow o').fo j p') (yK.setCell (F:=λi=>i=gt) (p:=⟨gt,1+j,none⟩) rfl _) bG;have h6:=sZ.join u2 u3 u4 h5;have h7:=sZ.after B.o hW h6;have h8:=sZ.join O.o.1 O.o.2.1 O.o.2.2 h7;rw[HN.o,ze rfl];unfold oh;rw[Hp.o,HO.o];exact h8
    have m0:wr.cell? (gt,1+j)=some (.int .i64 p):=(by rw[HL.o.full j Y,Hp.o]);have U:wr.frozen? (gt,1+j)=false:=zF HL.o.row;clear aR;rcases a7 with rfl|⟨rfl,rfl⟩;all_goals
     go_upto_region 7 with fail
     go_region_with (first
      | (go_at_call 100;go_loud ((with_reducible refine (d2.o wr.drew zB.drew).mono ?_);(rintro e w3 ⟨rfl,bQ⟩);(obtain⟨⟨eG,eg⟩,bL⟩:=HS.o wr.drew w3 zB.drew bQ);(have cL:=za bL);clear bQ bL)))
     all_goals
      go_wp2_with fail
      go_roundw
      .exact⟨j+1,by omega,by go_num,cL⟩
      .simp[intOf];omega
  .obtain rfl:j=16:=(by omega);obtain⟨fl,aN⟩:=zD y.full;rw[aN.o]at ac;cases fl with
   | true=>
    have HE:Hid (endE s x=6):=(by show _=_;unfold endE;rw[HZ.o,zb (by decide),Hy.o,aN.o,ze rfl]);have HR:=za (aX.o wr ak.o (by rw[HE.o];decide));clear c0 M I V t J N hl;go_wp2;go_ret;exact⟨by rw[HE.o];rfl,HR.o⟩
   | false=>
   have HE:Hid (endE s x=0):=(by show _=_;unfold endE;rw[HZ.o,zb (by decide),Hy.o,aN.o,zb (by decide)]);have hok:=cS.o HZ.o (by rw[Hy.o];exact aN.o);have ax:=za hok;obtain⟨s1,s2,s3,s4,s5⟩:=rx s.k x 16;rw[Hy.o]at s1 s2 s3 s4 s5;have az:Hid (y.nodes=x.nodes/\y.dirty=x.dirty/\y.put=x.put/\y.gone=x.gone/\y.rows=x.rows):=⟨s1,s2,s3,s4,s5⟩;have ci:Hid (∀j,Nt y j=Nt x j):=λj=>(by unfold Nt;rw[s2]);clear c0 M I V t J N hl hok s1 s2 s3 s4 s5;go_wp2;clear ac;go_loopw [57] (λiv wq=>∃j:Nat,j<=16/\iv=.int .i64 j/\Hid (sZ w0 F gt (gf,()) {y with put:=uS y j} T w wq)) (λiv _=>16-(intOf iv).toNat)
   .exact⟨0,by omega,rfl,aL⟩
   .obtain⟨j,hj,rfl,aZ⟩:=hrel;obtain⟨G,an⟩:∃z:Tx,Hid ({y with put:=uS y j}=z):=⟨_,za rfl⟩;rw[an.o]at aZ;have al:Hid (G.nodes=x.nodes/\G.dirty=x.dirty/\G.fo=y.fo/\G.put.length<=816):=(by rw[<-an.o];exact⟨az.o.1,az.o.2.1,rfl,by have h1:=Ox y j;rw[az.o.2.2.1]at h1;show (uS y j).length<=816;omega⟩);obtain⟨T1,t1,t2,t3,t4⟩:=aZ.o;have B:=za t1;have O:Hid ((∀i,T1 i->T i\/w.heap.size<=i)/\yK T w wr/\∀i,T i->T1 i):=⟨t2,t3,t4⟩;have ak:=za (ay.o.trans (t3.to_below H.o.new ay.o.size));obtain⟨rv,S,cn,gd,gp,gv,E,pl,hl⟩:=t1.lies;obtain⟨c0,M,I,V,t,J,ac,N⟩:=nw hl.row;clear t1 t2 t3 t4 ac;by_cases Y:j<16
    .have aD:(j:Int)<16:=(by omega);obtain⟨m,Hm⟩:=zD (2*j);obtain⟨U,aK⟩:=zD (2*j+1);have aU:m<32:=(by have:=Hm.o;omega);have a5:U<32:=(by have:=aK.o;omega);have aa:=hl.dirt.look (k:=2*(j:Int)+1) intT RS (kt wr) (by unfold InZ;omega);have ae:=hl.dirt.look (k:=2*(j:Int)+2) intT RS (kt wr) (by unfold InZ;omega);rw[al.o.2.1,bO.o]at aa ae;have af:Hid (Nt x j=((getZ x.dirty (2*j+1)).isSome||(getZ x.dirty (2*j+2)).isSome)):=za rfl;obtain⟨b1,bq⟩:=zD ((getZ x.dirty (2*(j:Int)+1)).isSome);obtain⟨b2,bt⟩:=zD ((getZ x.dirty (2*(j:Int)+2)).isSome);rw[bq.o]at aa af;rw[bt.o]at ae af;rw[show 2*(j:Int)+1=((U:Nat):Int) by have:=aK.o;omega]at aa;have i1:IntKind.i64.wrap (2*j)=m:=(by rw[show 2*(j:Int)=(m:Int) by have:=Hm.o;omega];exact zM _ (by omega));have i2:IntKind.i64.wrap (m+1)=U:=(by rw[show (m:Int)+1=(U:Int) by have:=Hm.o;have:=aK.o;omega];exact zM _ (by omega));have i3:IntKind.i64.wrap (m+2)=2*j+2:=(by rw[show (m:Int)+2=2*(j:Int)+2 by have:=Hm.o;omega];exact zM _ (by omega));obtain⟨d,Hd⟩:=zD (Nt x j);rw[Hd.o]at af;have hd:=af.o;cases d with
     | false=>
      obtain⟨rfl,rfl⟩:b1=false/\b2=false:=vO.1 hd.symm;have HR:Hid (sZ w0 F gt (gf,()) {y with put:=uS y (j+1)} T w wr):=(by have e:uS y (j+1)=uS y j:=(by show (if Nt y j=true then _ else uS y j)=_;rw[ci.o,Hd.o,zb (by decide)]);show sZ _ _ _ _ _ _ _ _;rw[e,an.o];exact aZ.o);clear hd hl;go_wp2;go_roundw
      .exact⟨j+1,by omega,by go_num,HR⟩
      .simp[intOf];omega
     | true=>
      have a7:=KG hd.symm;clear hd;obtain⟨X0,a4⟩:∃X,x.nodes[m]?=some X:=⟨_,zk (by rw[H.o.len];exact aU)⟩;obtain⟨C,a3⟩:∃X,x.nodes[U]?=some X:=⟨_,zk (by rw[H.o.len];exact a5)⟩;have bm:=ax.o.nd X0 (wQ a4);have bp:=ax.o.nd C (wQ a3);have aq:Hid ((oo X0).length=32/\(oo C).length=32):=⟨sr bm,sr bp⟩;obtain⟨p,Hp⟩:=zD (y.fo.nd 0 j);have di:Hid (0<=p/\p<=950000):=(by have h1:=aB.o.2.2 j Y;have h2:=aB.o.2.1;rw[Hp.o]at h1;show _/\_;omega);have dz:Hid ({y with put:=uS y (j+1)}={G with put:=putZ G.put p (oo X0++oo C)}):=(by have e:uS y (j+1)=putZ (uS y j) p (oo X0++oo C):=(by show (if Nt y j=true then putZ (uS y j) (y.fo.nd 0 j) (oo (y.nodes.getD (2*j) zN)++oo (y.nodes.getD (2*j+1) zN)) else uS y j)=_;rw[ci.o,Hd.o,ze rfl,Hp.o,aK.o,Hm.o,az.o.1,zt,zt,a4,a3];rfl);show _=_;rw[e,<-an.o]);have HL:=za hl;rw[<-al.o.1]at a4 a3;obtain⟨yq,yn,yc,y0,y1,y2,y3,y4,y5,y6,y7,hy⟩:=hl.nodeAt B.o.len m aU X0 a4;obtain⟨zq,zn,zc,z0,z1,z2,z3,z4,z5,z6,z7,hz⟩:=hl.nodeAt B.o.len U a5 C a3;have A:Hid (S<wr.heap.size/\gt<wr.heap.size):=⟨(hl.own.lt S rfl).2,xB hl.row⟩;have ag:Hid (wr.cell? (S,U*8)=some (.int .i64 C.k)/\wr.cell? (S,U*8+1)=some (.int .i64 C.m)/\wr.cell? (S,U*8+2)=some (.int .i64 C.u)/\wr.cell? (S,U*8+3)=some (.int .i64 C.g)/\wr.cell? (S,U*8+4)=some (.int .i64 C.s)/\wr.cell? (S,U*8+5)=some (.int .i64 C.l)/\wr.cell? (S,U*8+6)=some (.int .i64 C.up)/\wr.cell? (S,U*8+7)=some (.slice zq zn zc)):=⟨z0,z1,z2,z3,z4,z5,z6,z7⟩;have bj:=za I;have dP:=za (mE X0.k X0.m X0.u X0.g X0.s X0.l X0.up (yq,yn,yc) X0.P wr hy.now bm);have bc:Hid (∀W,Below wr wr W->Calls prog 89 #[.agg #[C.k,C.m,C.u,C.g,C.s,C.l,C.up,(zq,zn,zc)]] W (S7 C.k C.m C.u C.g C.s C.l C.up C.P W)):=λW hW=>mE _ _ _ _ _ _ _ _ _ W (uq.below hz.now hW) bp;have cq:Hid (wr.cell? (gt,1+j)=some (.int .i64 p)/\wr.cell? (gt,196)=some (.map (some gp))):=⟨by rw[hl.full j Y,al.o.2.2.1,Hp.o],t⟩;have dW:(U:Int)<32:=(by omega);have em:(m:Int)<32:=(by omega);clear z0 z1 z2 z3 z4 z5 z6 z7 hl hy hz c0 M J N a4 a3 bm bp;rcases a7 with rfl|⟨rfl,rfl⟩;all_goals
       go_wp2_with fail
       refine dP.o.mono ?_;rintro e w5 ⟨ga,rfl,cQ,bU,bN⟩;have Z:=za bN;have dq:=za bU;have br:=(Z.o.cell (p:=⟨gt,194,none⟩) A.o.2).trans bj.o;have z0:=(Z.o.cell (p:=⟨S,U*8,none⟩) A.o.1).trans ag.o.1;have z1:=(Z.o.cell (p:=⟨S,U*8+1,none⟩) A.o.1).trans ag.o.2.1;have z2:=(Z.o.cell (p:=⟨S,U*8+2,none⟩) A.o.1).trans ag.o.2.2.1;have z3:=(Z.o.cell (p:=⟨S,U*8+3,none⟩) A.o.1).trans ag.o.2.2.2.1;have z4:=(Z.o.cell (p:=⟨S,U*8+4,none⟩) A.o.1).trans ag.o.2.2.2.2.1;have z5:=(Z.o.cell (p:=⟨S,U*8+5,none⟩) A.o.1).trans ag.o.2.2.2.2.2.1;have z6:=(Z.o.cell (p:=⟨S,U*8+6,none⟩) A.o.1).trans ag.o.2.2.2.2.2.2.1;have z7:=(Z.o.cell (p:=⟨S,U*8+7,none⟩) A.o.1).trans ag.o.2.2.2.2.2.2.2;clear cQ bU bN;go_wp2_with fail
       refine (bc.o w5 Z.o).mono ?_;rintro e w6 ⟨gb,rfl,cZ,cr,bk⟩;have ba:=za (zi Z.o bk);have d7:=za cr;have cv:=za (xV bk dq.o);clear cZ cr bk br z0 z1 z2 z3 z4 z5 z6 z7 y0 y1 y2 y3 y4 y5 y6 y7 aa ae I V t;obtain⟨i0,u1,u2,u3,u4⟩:=yX R5;have HU:Hid (prog.info? 5=some i0/\i0.zero=some (.int .u8 0)/\i0.size=1/\i0.bytes=1/\(Value.int .u8 0).cells.size=1):=⟨u1,u2,u3,u4,rfl⟩;have da:=za (zv ak.o.size ba.o.size);clear u1 u2 u3 u4
       go_upto_region 19 with fail
       refine RW (by kernel_rfl) (by kernel_rfl) (λu u'=>Below u u u') (zB.drew) (λu u' h1 h2=>zi h1 h2) 155 [109,110,111,112,113,114,115,116,117,118,119,120,121,122,123] (epF gt gp j p w0 ga gb (oo X0++oo C)) Fc 15 (by kernel_rfl) (by kernel_rfl) ⟨rfl,rfl⟩ ?_ ?_
       .intro Dn b u Q i o bY c d9 L;have bT:=Q.old 0 (gt,()) ⟨by decide,by decide,rfl⟩;have dv:=Q.old 4 (.int .i64 (j:Int)) ⟨by decide,by decide,rfl⟩;have d5:=Q.old 5 (.slice (some ⟨ga,0,none⟩) 32 32) ⟨by decide,by decide,rfl⟩;have dx:=Q.old 7 (.slice (some ⟨gb,0,none⟩) 32 32) ⟨by decide,by decide,rfl⟩;have ab:=zi ba.o Q.b;have dc:=(ab.cell (p:=⟨gt,1+j,none⟩) A.o.2).trans cq.o.1;have de:=(ab.cell (p:=⟨gt,196,none⟩) A.o.2).trans cq.o.2
        match i,bY,c,d9,L with
        | 0,_,c,_,L=>
         simp only[zf,zm]at c;subst c;exact tj (.tmp 0) rfl ⟨_,rfl,zB,bT,λD=>yi D (by decide)⟩
        | 1,_,c,_,L=>
         simp only[zf,zh,zm]at c;subst c;have e0:=(Q.fact 0 (L ⟨0,.data⟩ (by simp) rfl)).1;exact kU (.tmp 109) rfl ⟨gt,0,none⟩ e0 ⟨_,rfl,zB,rfl,λD=>yi D (by decide)⟩
        | 2,_,c,_,L=>
         simp only[zf,zh,zm]at c;subst c;have e1:=(Q.fact 1 (L ⟨1,.data⟩ (by simp) rfl)).1;exact vI (v:=(.pointer (some ⟨gt,196,none⟩))) (w':=u) (by unfold execOp;simp only[Act.eval];rw[show b.tmps.getD 110 undef=_ from e1];simp[go_sem]) ⟨_,rfl,zB,rfl,λD=>yi D (by decide)⟩
        | 3,_,c,_,L=>
         simp only[zf,zh,zm]at c;subst c;have e2:=(Q.fact 2 (L ⟨2,.data⟩ (by simp) rfl)).1;exact vI (v:=(.map (some gp))) (w':=u) (by unfold execOp;simp only[Act.eval];rw[show b.tmps.getD 111 undef=_ from e2];simp[go_sem,de]) ⟨_,rfl,zB,rfl,λD=>yi D (by decide)⟩
        | 4,_,c,_,L=>
         simp only[zf,zh,zm]at c;subst c;exact tj (.tmp 0) rfl ⟨_,rfl,zB,bT,λD=>yi D (by decide)⟩
        | 5,_,c,_,L=>
         simp only[zf,zh,zm]at c;subst c;exact tj (.tmp 4) rfl ⟨_,rfl,zB,dv,λD=>yi D (by decide)⟩
        | 6,_,c,_,L=>
         simp only[zf,zh,zm]at c;subst c;have e4:=(Q.fact 4 (L ⟨4,.data⟩ (by simp) rfl)).1;exact kU (.tmp 113) rfl ⟨gt,0,none⟩ e4 ⟨_,rfl,zB,rfl,λD=>yi D (by decide)⟩
        | 7,_,c,_,L=>
         simp only[zf,zh,zm]at c;subst c;have e6:=(Q.fact 6 (L ⟨6,.data⟩ (by simp) rfl)).1;exact vI (v:=(.pointer (some ⟨gt,1,none⟩))) (w':=u) (by unfold execOp;simp only[Act.eval];rw[show b.tmps.getD 115 undef=_ from e6];simp[go_sem]) ⟨_,rfl,zB,rfl,λD=>yi D (by decide)⟩
        | 8,_,c,_,L=>
         simp only[zf,zh,zm]at c;subst c;have e7:=(Q.fact 7 (L ⟨7,.data⟩ (by simp) rfl)).1;exact vI (v:=(.pointer (some ⟨gt,1,none⟩))) (w':=u) (by unfold execOp;simp only[Act.eval];rw[show b.tmps.getD 116 undef=_ from e7];simp[go_sem]) ⟨_,rfl,zB,rfl,λD=>yi D (by decide)⟩
        | 9,_,c,_,L=>
         simp only[zf,zh,zm]at c;subst c;have e8:=(Q.fact 8 (L ⟨8,.data⟩ (by simp) rfl)).1;exact vI (v:=(.pointer (some ⟨gt,1,none⟩))) (w':=u) (by unfold execOp;simp only[Act.eval];rw[show b.tmps.getD 117 undef=_ from e8];simp[go_sem]) ⟨_,rfl,zB,rfl,λD=>yi D (by decide)⟩
        | 10,_,c,_,L=>
         simp only[zf,zh,zm]at c;subst c;have e9:=(Q.fact 9 (L ⟨9,.data⟩ (by simp) rfl)).1;have e5:=(Q.fact 5 (L ⟨5,.data⟩ (by simp) rfl)).1;exact vI (v:=(.pointer (some (gt,1+j)))) (w':=u) (by unfold execOp;simp only[Act.eval];rw[show b.tmps.getD 118 undef=_ from e9,show b.tmps.getD 114 undef=_ from e5];simp[go_sem,aD]) ⟨_,rfl,zB,rfl,λD=>yi D (by decide)⟩
        | 11,_,c,_,L=>
         simp only[zf,zh,zm]at c;subst c;have cU:=(Q.fact 10 (L ⟨10,.data⟩ (by simp) rfl)).1;exact vI (v:=(.int .i64 p)) (w':=u) (by unfold execOp;simp only[Act.eval];rw[show b.tmps.getD 119 undef=_ from cU];simp[go_sem,dc]) ⟨_,rfl,zB,rfl,λD=>yi D (by decide)⟩
        | 12,_,c,_,L=>
         simp only[zf,zh,zm]at c;subst c;exact tj (.tmp 5) rfl ⟨_,rfl,zB,d5,λD=>yi D (by decide)⟩
        | 13,_,c,_,L=>
         simp only[zf,zh,zm]at c;subst c;exact tj (.tmp 7) rfl ⟨_,rfl,zB,dx,λD=>yi D (by decide)⟩
        | 14,_,c,_,L=>
         simp only[zf,zh,zm]at c;subst c;have d3:=(Q.fact 12 (L ⟨12,.data⟩ (by simp) rfl)).1;have dA:=(Q.fact 13 (L ⟨13,.data⟩ (by simp) rfl)).1;have dw:=xV Q.b cv.o;have cV:=xV Q.b d7.o;refine Cs (.tmp 121) (.tmp 122) 38 rfl 5 i0 (.int .u8 0) 1 1 u8sT HU.o.1 HU.o.2.1 HU.o.2.2.1 HU.o.2.2.2.1 HU.o.2.2.2.2 (by decide) ⟨ga,0,none⟩ 32 32 (u8s (oo X0)) (by simp only[Act.eval];exact d3) (by rw[wd,aq.o.1]) (lQ dw) ⟨gb,0,none⟩ 32 32 (u8s (oo C)) (by simp only[Act.eval];exact dA) (by rw[wd,aq.o.2]) (lQ cV) (by decide) (by unfold maxLen;decide) (by decide) ?_;intro v' w' bM dN;refine⟨_,rfl,(xW _ u).grown dN zL (λk hk=>by cases hk),trivial,λ_=>?_⟩;exact EU bM (by rw[zl,aq.o.1,aq.o.2]) (pX _ _) (zv da.o Q.b.size)
        | n+15,bY,_,_,_=>omega
       .intro Dn b u Q ao o c f Hf c1;simp only[zf,zh,zm]at c;subst c;have e3:b.tmps.getD 112 undef=.map (some gp):=(Q.fact 3 (ao 3 (by omega))).1;have cx:b.tmps.getD 120 undef=.int .i64 p:=(Q.fact 11 (ao 11 (by omega))).1;have bb:js u w0 (b.tmps.getD 123 undef) (oo X0++oo C):=(Q.fact 14 (ao 14 (by omega))).2 rfl;have ab:=zi ba.o Q.b;have a9:=HL.o.below ab;have ca:=B.o.below ab;generalize bK:b.tmps.getD 123 undef=u6 at bb;obtain⟨w7,aY,cm,cf⟩:=a9.puts.store intT Qw (by have h1:=a9.secs.len;have h2:=al.o.2.2.2;omega) (k:=p) (by have:=di.o;unfold InZ;omega) u6;refine TS (w':=w7) (by unfold execOp;simp only[Act.eval];rw[e3,cx,bK];simp[aY,Result.andThen]) ?_;have bg:yK (λi=>i=gp) u w7:=yK.grown cf.grown (λr hr=>by injection hr with hr;exact hr.symm);have bJ:=a9.putMap ca p _ (oo X0++oo C) bb bg cm (by have h2:=al.o.2.2.2;omega);have cb:yK T1 wr w7:=(yK.of_below ab).step (bg.mono λi _ hi=>by rw[hi];exact a9.tp);have bS:Hid (sZ w0 F gt (gf,()) {y with put:=uS y (j+1)} T w w7):=(by refine⟨T1,?_,O.o.1,O.o.2.1.trans cb O.o.1,O.o.2.2⟩;rw[dz.o];exact bJ);rename_i K hK;refine hK _ _ ?_;rw[c1];simp only[Act.put,ww,lm,zP,yf,yb];clear e3 cx bb bK a9 ca aY cm cf bg bJ cb c1 Hf ao Q ab;go_wp2;refine⟨?_,?measure⟩
        repeat apply Exists.intro
        refine⟨?rel,rfl⟩;case rel=>exact⟨j+1,by omega,by go_num,bS⟩
        case measure=>simp[intOf];omega
    .obtain rfl:j=16:=(by omega);obtain⟨z,Hz⟩:∃z:Tx,Hid (Gg y=z):=⟨_,za rfl⟩;have d8:G=z:=(by rw[<-an.o,<-Hz.o];rfl);subst d8;have ai:Hid (G.gone=x.gone/\G.rows=x.rows/\G.nodes=x.nodes/\sa G x.gone.length=endT s.k x):=(by refine⟨by rw[<-an.o];exact az.o.2.2.2.1,by rw[<-an.o];exact az.o.2.2.2.2,al.o.1,?_⟩;unfold endT;rw[Hy.o,Hz.o]);have HL:Hid (mV wr w0 F T1 gt (gf,()) (sa G 0) rv S cn gd gp gv E pl):=(by show mV _ _ _ _ _ _ _ _ _ _ _ _ _ _ _;rw[UO];exact hl);have bn:=hl.gone;rw[ai.o.1]at bn;obtain⟨q,cg,rfl,ck⟩:=rU bn;have ck:=za ck;clear hl c0 M I V t N;have ch:=J;clear J bn;have dB:=za H.o.gone;obtain⟨m,Hm⟩:=zD x.gone.length;rw[Hm.o]at ch;have eU:m<=1000:=(by have h1:=dB.o;have h2:=Hm.o;omega);go_wp2;go_loopw [130] (λiv wq=>∃j aI,j<=m/\iv=.int .i64 (j:Int)/\Hid (mV wq w0 F T1 gt (gf,()) (sa G j) rv S cn gd gp (q,x.gone.length,cg) E aI)/\Hid (yK T1 wr wq)) (λiv _=>m-(intOf iv).toNat)
     .exact⟨0,pl,by omega,rfl,HL,yK.refl _ _⟩
     .obtain⟨j,aI,et,rfl,aw,cl⟩:=hrel;obtain⟨c0,M,I,V,t,J,ac,N⟩:=nw aw.o.row;clear c0 M I V J ac N;have dj:=za t;clear t;by_cases dd:j<m
      .have a6:j<x.gone.length:=(by rw[Hm.o];exact dd);have ct:wr.ownsRow w0 3 1 (q,x.gone.length,cg) x.gone.length (ints x.gone):=(by have h9:wr.ownsRow w0 3 1 (q,x.gone.length,cg) G.gone.length (ints G.gone):=aw.o.gone;rw[ai.o.1]at h9;exact h9);obtain⟨q2,c2,cT,ce⟩:=rU ct;injection cT with e1 _ e2;subst e1 e2;obtain⟨gg,rfl,dt,bX⟩:=ce (by omega);have cY:=ax.o.gone _ (Nj a6);obtain⟨p,Hp⟩:∃p:Nat,Hid (x.gone[j]' a6=(p:Int)):=⟨(x.gone[j]' a6).toNat,by show _=_;omega⟩;have dG:p<256:=(by have:=Hp.o;omega);have cj:=bX j _ (pQ x.gone j a6);rw[Hp.o]at cj;have dp:Hid (G.gone[j]?=some (p:Int)):=(by show _=_;rw[ai.o.1,zk a6,Hp.o]);have bI:j<(m:Int):=(by omega);obtain⟨yg,bV⟩:∃z:Tx,Hid (sa G j=z):=⟨sa G j,za rfl⟩;rw[bV.o]at aw;obtain⟨R,HR⟩:=zD (txR (gf,()) yg.fo rv (.slice (some ⟨S,0,none⟩) 32 cn) (.map (some gd)) (.map (some gp)) (gg,0,x.gone.length,cg) yg.full yg.fake);have dC:Hid (R.size=200):=(by show _=_;rw[<-HR.o];exact qB _ _ _ _ _ _ _ _ _);obtain⟨S0,bh⟩:=zA (enc (yg.fo.hs 0));have bZ:Hid (S0.size=32):=(by rw[bh.o];exact tO _);have cJ:Hid (∀j,j<S0.size->R[17+j]?=S0[j]?):=(by rw[<-HR.o,bh.o];exact lJ _ _ _ _ _ _ _ _ _);obtain⟨S1,aH⟩:=zA (enc (del (yg.fo.hs 0) p));have aW:Hid (S1.size=32):=(by rw[aH.o];exact tO _);have cy:Hid (S1.all (·.oneCell')=true):=(by rw[aH.o];exact Zx _);have dJ:Hid (∀W,Calls prog 101 #[.agg S0,p] W (κ W (.agg S1))):=λW=>(by have:=l7 (yg.fo.hs 0) (p:Int) W (by omega) (by omega);rw[yQ]at this;rw[bh.o,aH.o];exact this);obtain⟨R1,aQ⟩:=zD (txR (gf,()) (hasF yg.fo (del (yg.fo.hs 0) p)) rv (.slice (some ⟨S,0,none⟩) 32 cn) (.map (some gd)) (.map (some gp)) (gg,0,x.gone.length,cg) yg.full yg.fake);have bc:Hid ((R.toList.take 17++S1.toList++R.toList.drop (17+S1.size)).toArray=R1):=(by rw[<-HR.o,aH.o,<-aQ.o];exact QV _ _ _ _ _ _ _ _ _ _);have a8:=aw.o.row;rw[HR.o]at a8;have aV:=za a8;clear a8 ct bX ce cY dt
       go_upto_region 24 with fail
       refine fF 13 (by kernel_rfl) (by kernel_rfl) ?_;simp only[vu,xH,vv,vy]
       repeat (first
        | go_big_quiet_skip
        | (refine ou rfl 81 (.tmp 139) rfl gt 17 rfl 92 R S0 (0,0) _ (λ_ hw=>qy hw aV.o) cJ.o setT rfl (by rw[bZ.o];exact setI) ?_;simp only[Act.put,zP,yf,yb])
        | (refine sG 101 #[.tmp 140,.tmp 141] #[81,3] rfl rfl (λ_ _=>by kernel_rfl) #[.agg S0,p] (by kernel_rfl) (.agg S1) (λ_ _=>vY) (λw' _=>dJ.o w') ?_;simp only[Act.put,zP,yf,yb])
        | (go_big_quiet_want;go_big_quiet_op;go_big_quiet_on))
       refine vn ?_;intro u bv;have dy:=za (us bv);have aC:=za (xV (us bv) aV.o);clear bv;have bD:(u.setRow gt R1).heap[gt]?=some (.cells (txR (gf,()) (hasF yg.fo (del (yg.fo.hs 0) p)) rv (.slice (some ⟨S,0,none⟩) 32 cn) (.map (some gd)) (.map (some gp)) (gg,0,x.gone.length,cg) yg.full yg.fake) 92):=(by rw[aQ.o];exact ya _ _ _ _ _ _ aC.o);have bx:yK (λi=>i=gt) wr (u.setRow gt R1):=(yK.of_below dy.o).step (yK.setRow (F:=λi=>i=gt) rfl _);have a0:=za (aw.o.withFo B.o.self _ bx bD);have d1:=za bx;have t:=(nw a0.o.row).2.2.2.2.1;have dl:=za a0.o.puts;clear bD bx;go_wp2_with (first|(refine rT rfl 81 (.tmp 146) (.tmp 142) rfl gt 17 S1 rfl rfl 92 R R1 aC.o (by rw[aW.o];exact setI) (by rw[aW.o,dC.o];omega) cy.o bc.o ?_)|(refine RZ _ rfl _ _ _ _ rfl 38 intT Qw gp aI (p:Int) rfl dl.o rfl (by unfold InZ;omega) ?_;intro w9 co bP))
       have aj:yK (λi=>i=gp) (u.setRow gt R1) w9:=yK.grown bP.grown (λr hr=>by injection hr with hr;exact hr.symm);have df:Hid (mV w9 w0 F T1 gt (gf,()) (sa G (j+1)) rv S cn gd gp (gg,0,x.gone.length,cg) E (delZ aI p)):=(by show mV _ _ _ _ _ _ _ _ _ _ _ _ _ _ _;rw[UP G j (p:Int) dp.o,yQ,bV.o];exact a0.o.withPut aj co (vr.drop (a0.o.secs.keep λg cc _ D=>aj.block g (xB D) (xM D a0.o.puts))));have bl:Hid (yK T1 _ w9):=cl.o.step ((d1.o.mono λi _ hi=>by rw[hi];exact B.o.self).step (aj.mono λi _ hi=>by rw[hi];exact a0.o.tp));clear t aj co bP;refine⟨⟨j+1,by omega,by omega,⟨_,df⟩,bl⟩,?_⟩;simp[intOf];omega
      .obtain rfl:j=m:=(by omega);have bI:¬(j<(j:Int)):=(by omega);have be:=cl.o;have cd:=ak.o.trans (be.to_below B.o.new ak.o.size);have bo:=aw.o;rw[<-Hm.o,ai.o.2.2.2]at bo;have c3:(endT s.k x).put.length<=816:=(by rw[<-ai.o.2.2.2];have h1:=GP (G.gone.take x.gone.length) G.put;have h3:=al.o.2.2.2;show (gonP G.put (G.gone.take x.gone.length)).length<=816;omega);have am:(endT s.k x).gone=G.gone/\(endT s.k x).dirty=G.dirty/\(endT s.k x).rows=G.rows/\(endT s.k x).fake=G.fake/\(endT s.k x).nodes=G.nodes:=(by rw[<-ai.o.2.2.2];exact⟨rfl,rfl,rfl,rfl,rfl⟩);have bW:=mV.at bo B.o.self (by rw[am.2.2.2.2];exact B.o.len) (λi hi=>zr (B.o.fin i hi) be.size) B.o.new (by rw[am.1];exact B.o.gone) (by omega) (by rw[am.2.1];exact B.o.dirty) (by rw[am.2.2.1];exact B.o.rows) (by rw[am.2.2.2.1];exact B.o.fake);have dk:=za (Kd HF.o cd bW cM.o ax.o.rf (by rw[am.2.2.1,ai.o.2.1];exact ax.o.rq) aA (by omega) ax.o.sync);have d4:Hid (endS s x=N9 (endT s.k x) s):=(by show _=_;unfold endS;rw[ze HE.o]);clear be cd bo bW c3 am;go_wp2_with fail
       refine dk.o.mono ?_;rintro e w9 ⟨rfl,aj⟩;have bl:=za aj;clear aj;go_wp2;go_ret;exact⟨by rw[HE.o];rfl,by rw[d4.o];exact bl.o⟩
