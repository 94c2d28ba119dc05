import Derived.Test.YtmanoiagchpelaaGreatDoorKA32
set_option maxHeartbeats 0
set_option linter.all false
set_option maxRecDepth 100000
namespace Go.Proofs.YtmanoiagchpelaaGreatDoor
open Go.Proofs.Tryz Go.RowKit
variable {F:Nat->Prop} {a:Addr} {gf:Nat} {s:Fs} {w w' w0:World}
theorem Vh (N) (P) (s):(tO N P s).length<=s.toNat:=by unfold tO;rw[zj];omega
theorem K0 {g:Nat} {a0 a1 a2 a3 a4 a5:Value} {t:TypeId} {fr:Nat×Nat} (h:w.heap[g]?=some (.cells #[a0,a1,a2,a3,a4,a5] t fr)):
 w.cell? (g,0)=some a0/\w.cell? (g,1)=some a1/\w.cell? (g,2)=some a2/\w.cell? (g,3)=some a3/\w.cell? (g,4)=some a4/\w.cell? (g,5)=some a5:=
 have c:=fun i=>wM _ _ i _ _ _ h
 ⟨c 0,c 1,c 2,c 3,c 4,c 5⟩
def pG (X:Pn):Value:=if X.k=0 then .tuple #[.agg #[(),(),(),(),(),()],(4:Int)] else .tuple #[.agg #[X.k,X.m,X.u,X.g,X.s,X.l],()]
theorem hH (h:FsAt w gf s F a) (i:Nat) (hi:i<32) (X) (hX:s.nodes[i]?=some X):
 Calls prog 29 #[(gf,()),.int .i64 (i+1)] w (fun e w'=>e=.returned (pG X)/\Below w w w'):=by
 have c:=za (fun W (K:Below w w W)=>Zf (h.below K) i hi X hX);obtain⟨U,on,cn,yq,yn,yc,j,T,G,e1,e2,e3,e4,e5,e6,e7,R⟩:=oX h i hi X hX;have J:gf<w.heap.size:=zG j;have N:¬gf=w.heap.size:=by omega
 have O:¬U=w.heap.size:=by omega
 have i1:IntKind.i64.wrap (i+1-1)=i:=by rw[zQ _ (by omega)];omega
 obtain⟨y,Z⟩:=zD X.k;unfold pG;rw[Z.o]at G c ⊢;clear h hX R;by_cases q:y=0
 .subst q;rw[ze rfl];rw[show decide ((0:Int)≠0)=false from rfl]at c;go_enter func29,ntmps29;go_wp2_with fail
  refine (c.o _ (zB.alloc zL _)).mono ?_;rintro e H ⟨rfl,rfl⟩;go_wp2;have Q:=zT w (.cells #[(),(),(),(),(),()] 52);obtain⟨E,C,A,D,B,z⟩:=K0 Q;exact yV (v:=.tuple #[.agg #[(),(),(),(),(),()],(4:Int)]) (by simp[results,results29,go_sem,E,C,A,D,B,z]) rfl ⟨rfl,zB.alloc zL _⟩
 .rw[zb q];rw[show decide (y≠0)=true from ya q]at c;go_enter func29,ntmps29;go_wp2_with fail
  refine (c.o _ (zB.alloc zL _)).mono ?_;rintro e H ⟨rfl,rfl⟩;have V:Hid ((w.alloc (.cells #[(),(),(),(),(),()] 52)).heap[w.heap.size]?=some (.cells #[(),(),(),(),(),()] 52)):=zH;have n:Hid (Below w w (w.alloc (.cells #[(),(),(),(),(),()] 52))):=zB.alloc zL _;go_wp2_with fail
  refine (Ri y X.m X.u X.g X.s X.l X.up _ _).mono ?_;rintro e d ⟨rfl,f⟩;have b:=za (wy f V.o);have r:=za (zf n.o f);obtain⟨E,C,A,D,B,z⟩:=K0 b.o;have f0:d.frozen? (w.heap.size,0)=false:=zF b.o;have f1:d.frozen? (w.heap.size,1)=false:=zF b.o;have f2:d.frozen? (w.heap.size,2)=false:=zF b.o;have f3:d.frozen? (w.heap.size,3)=false:=zF b.o;have f4:d.frozen? (w.heap.size,4)=false:=zF b.o;have f5:d.frozen? (w.heap.size,5)=false:=zF b.o;clear f;go_wp2;have x:Below w w ((((((d.setCell (w.heap.size,0) (.int .i64 y)).setCell (w.heap.size,1) (.int .i64 X.m)).setCell (w.heap.size,2) (.int .i64 X.u)).setCell (w.heap.size,3) (.int .i64 X.g)).setCell (w.heap.size,4) (.int .i64 X.s)).setCell (w.heap.size,5) (.int .i64 X.l)):=(((((r.o.setCell (p:=⟨w.heap.size,0,none⟩) zL _).setCell (p:=⟨w.heap.size,1,none⟩) zL _).setCell (p:=⟨w.heap.size,2,none⟩) zL _).setCell (p:=⟨w.heap.size,3,none⟩) zL _).setCell (p:=⟨w.heap.size,4,none⟩) zL _).setCell (p:=⟨w.heap.size,5,none⟩) zL _;have t:((((((d.setCell (w.heap.size,0) (.int .i64 y)).setCell (w.heap.size,1) (.int .i64 X.m)).setCell (w.heap.size,2) (.int .i64 X.u)).setCell (w.heap.size,3) (.int .i64 X.g)).setCell (w.heap.size,4) (.int .i64 X.s)).setCell (w.heap.size,5) (.int .i64 X.l)).heap[w.heap.size]?=some (.cells #[y,X.m,X.u,X.g,X.s,X.l] 52):=
   yb _ _ 5 _ _ _ (yb _ _ 4 _ _ _ (yb _ _ 3 _ _ _ (yb _ _ 2 _ _ _ (yb _ _ 1 _ _ _ (yb _ _ 0 _ _ _ b.o)))))
  generalize (((((d.setCell (w.heap.size,0) (.int .i64 y)).setCell (w.heap.size,1) (.int .i64 X.m)).setCell (w.heap.size,2) (.int .i64 X.u)).setCell (w.heap.size,3) (.int .i64 X.g)).setCell (w.heap.size,4) (.int .i64 X.s)).setCell (w.heap.size,5) (.int .i64 X.l)=w3 at *
  obtain⟨I,L,Y,M,S,P⟩:=K0 t;exact yV (v:=.tuple #[.agg #[y,X.m,X.u,X.g,X.s,X.l],()]) (by simp[results,results29,go_sem,I,L,Y,M,S,P]) rfl ⟨rfl,x⟩
def tx0 (s:Fs):Tx:=⟨s.fo,s.rows,s.nodes,[],[],[],false,256⟩
structure DirS (s:Fs) (i:Nat) (X:Pn) (D:List Int):Prop where
 lt:i<32
 nd:s.nodes[i]?=some X
 k:X.k=2
 l:0<X.l
 pts:ml X.P s.k
 len:X.P.length<=8
 sz:0<=X.s/\X.s<=64*(X.P.length:Int)
 by_:tO (secE s) X.P X.s=D
 byte:un D
 ok:sU D=true
theorem iV {P:List Int} {x:Tx} (h:ml P s.k) (b:s.k<=256):∀p∈P,PtR x s p:=fun p a=>⟨(h p a).1,by have:=(h p a).2;omega,zr (h p a).2⟩
def qf (D:List Int) (name:ByteArray):Int:=if (vB D name).2.2=0 then 5 else 0
theorem Zh {D:List Int} {n:Nat} {name:ByteArray}:∀f q k,(qp D n name f q k).2.2=0\/(qp D n name f q k).2.2=4/\(qp D n name f q k).1=0
 | 0,_,_=>zu ⟨rfl,rfl⟩
 | f+1,q,k=>by
  unfold qp;split
  .split
   .exact zr rfl
   .split
    .exact Zh f _ _
    .exact Zh f _ _
  .exact zu ⟨rfl,rfl⟩
theorem Ud {D:List Int} {name:ByteArray}:∀f q k,(qp D (D.length / 16) name f q k).2.2=0->∃m,m<D.length / 16/\(qp D (D.length / 16) name f q k).1=(rdE D m).2/\cmpB name (rdE D m).1=0
 | 0,_,_,h=>by unfold qp at h;cases h
 | f+1,q,k,h=>by
  unfold qp at h ⊢;split at h
  .rename_i c;rw[ze c];split at h
   .rename_i a;rw[ze a];exact⟨q,c,rfl,a⟩
   .rename_i a;rw[zb a];split at h
    .rename_i b;rw[ze b];exact Ud f _ _ h
    .rename_i b;rw[zb b];exact Ud f _ _ h
  .cases h
theorem Y0 {n:Nat} (d:n<=32) (m) (c:m<n):m∈ino n 0:=by
 have h:((List.range 33).all fun n=>(List.range n).all fun m=>(ino n 0).contains m)=true:=by kernel_rfl
 have b:=yW.1 h n (yH.2 (by omega));have a:=yW.1 b m (yH.2 c);simpa using a
theorem VB (h:FsAt w gf s F a) (i) (X) (D) (O:DirS s i X D) (name) (P:rW name=true):
 Calls prog 69 #[(gf,()),.int .i64 (i+1),.string name] w (fun e w'=>e=.returned (.tuple #[.int .i64 (vB D name).1,.int .i64 (vB D name).2.2])/\Below w w w'):=by
 have d:=za (Zd name);rw[P]at d;have m:=za (VX h i O.lt X O.nd);rw[O.k,zb (by omega),ze rfl]at m;have H:=za h;have t:=za (oA h);have x:Hid (∀(g) (T) (W),Below w w W->TxAt W w F g (gf,()) ⟨s.fo,s.rows,s.nodes,[],[],[],false,256⟩ T ->
  Calls prog 68 #[(g,()),.int .i64 (i+1)] W (fun e w'=>∃v,e=.returned v/\sx w' v D/\Below W W w')):=fun g T W C E=>by
  have:=US E (h.below C) i O.lt X O.nd (iV O.pts h.k1) O.len O.sz;have K:secT ⟨s.fo,s.rows,s.nodes,[],[],[],false,256⟩ s=secE s:=by funext n;rfl
  rw[K,O.by_]at this;exact this.mono fun e w' ⟨v,G,A,J⟩=>⟨v,G,⟨wh.of_owns A,jA A⟩,J⟩
 have b:Hid (∀(v) (W),sx W v D->Calls prog 125 #[v,.string name] W (Xh (vB D name) W)):=fun v W q=>Qy v D name W q O.byte O.ok;obtain⟨r,I⟩:=zD (vB D name);rw[I.o]at b ⊢;clear h O;go_enter func69,ntmps69;go_wp2_with fail
 refine (d.o _).mono ?_;rintro e w' ⟨rfl,rfl⟩;go_wp2_with fail
 refine m.o.mono ?_;rintro e w' ⟨rfl,rfl⟩;go_wp2_with fail
 refine t.o.mono ?_;rintro e B ⟨g,T,rfl,l,c⟩;have f:=za l;have z:=za c;clear l c;go_wp2_with fail
 refine (x.o g T B f.o z.o).mono ?_;rintro e M ⟨v,rfl,q,j⟩;have L:=za q;have y:=za (zf f.o j);clear q j;go_wp2_with fail
 refine (b.o v M L.o).mono ?_;rintro e N ⟨rfl,p⟩;have u:=za (zf y.o p);clear p;go_wp2;go_ret2;exact⟨rfl,u.o⟩
theorem XY (h:FsAt w gf s F a) (i) (X) (D) (j:DirS s i X D) (name) (g:rW name=true):
 Calls prog 36 #[(gf,()),.int .i64 (i+1),.string name] w (fun e w'=>e=.returned (.tuple #[.int .i64 (vB D name).1,.int .i64 (vB D name).2.2])/\Below w w w'):=by
 have d:=za (VB h i X D j name g);clear h j;generalize vB D name=r at *
 go_enter func36,ntmps36
 go_wp2_with fail
 refine d.o.mono ?_;rintro e f ⟨rfl,b⟩;have c:=za b;clear b;go_wp2;go_ret2;exact⟨rfl,c.o⟩
theorem WW (h:FsAt w gf s F a) (i) (X) (D) (hd:DirS s i X D) (name) (ab:rW name=true):
 Calls prog 103 #[(gf,()),.int .i64 (i+1),.string name] w (fun e w'=>e=.returned (.int .i64 (qf D name))/\Below w w w'):=by
 have J:=za (VB h i X D hd name ab);have C:Hid (∀W,Below w w W->Calls prog 73 #[(gf,()),.int .i64 (i+1)] W (fun e w'=>e=.returned (.bool true)/\W=w')):=fun W A=>by have:=Zf (h.below A) i hd.lt X hd.nd;rw[show decide (X.k≠0)=true from ya (by rw[hd.k];decide)]at this;exact this
 have u:Hid (∀W,Below w w W->∃p q x,W.cell? (gf,195)=some (.slice (some ⟨p,q,none⟩) 32 x)/\p<W.heap.size/\W.cell? ⟨p,q+i*8+5,none⟩=some (.int .i64 X.l)):=fun W A=>by obtain⟨p,q,x,yq,O,P,f,t,N,Y,R,Z,e4,H,_⟩:=oX (h.below A) i hd.lt X hd.nd;exact⟨p,q,x,f,t,H⟩
 have T:IntKind.i64.wrap (i+1-1)=i:=by rw[zQ _ (by have:=hd.lt;omega)];omega
 have S:=hd.lt;have K:=hd.l;obtain⟨y,M⟩:=zD X.l;rw[M.o]at u K;have Q:=ya K;obtain⟨r,j⟩:=zD (vB D name);have g:Hid ((r.2.2=0/\qf D name=5/\0<r.1)\/(r.2.2=4/\qf D name=0)):=by
  show _\/_;unfold qf;rw[j.o];rcases Zh (D:=D) (n:=D.length / 16) (name:=name) 7 0 0 with c|⟨c,_⟩
  .refine zr ⟨by rw[<-j.o];exact c,by rw[ze (by rw[<-j.o];exact c)],?_⟩;obtain⟨m,b,z,_⟩:=Ud 7 0 0 c;have B:=((rO _).1 (mP hd.ok).2.1).2.1 (rdE D m) (by unfold outD;exact zU.2 ⟨m,(Y0 (by have:=(nB D).1 hd.ok;omega) m b),rfl⟩);rw[<-j.o];show 0<(vB D name).1;rw[show (vB D name).1=(rdE D m).2 from z];have:=(jF B).2.1;omega
  .have b:r.2.2=4:=(by rw[<-j.o];exact c);exact zu ⟨b,by rw[zb (by rw[b];decide)]⟩
 rw[j.o]at J;clear h hd;go_enter func103,ntmps103;go_wp2_with fail
 refine J.o.mono ?_;rintro e G ⟨rfl,v⟩;have d:=za v;clear v;obtain⟨L,U,I⟩:=r;rcases g.o with⟨c,b,z⟩|⟨c,b⟩
 .have E:=za b;obtain rfl:I=0:=c;have B:0<L:=z;have V:=ya B;clear b z g;go_wp2;go_ret;exact⟨by rw[E.o];rfl,d.o⟩
 .have E:=za b;obtain rfl:I=4:=c;clear b g;obtain⟨p,q,x,f,t,H⟩:=u.o G d.o;go_wp2_with fail
  refine (C.o G d.o).mono ?_;rintro e w2 ⟨rfl,rfl⟩;go_wp2;go_ret;exact⟨by rw[E.o];rfl,d.o⟩
def pb (s:Fs):Option Nat:=s.nodes.findIdx? fun X=>decide (X.k=0)
def mc (s:Fs):Value:=match pb s with|some m=>.tuple #[.int .i64 (m+1),()]|none=>.tuple #[(),(6:Int)]
theorem Qg (h:FsAt w gf s F a):
 Calls prog 147 #[(gf,())] w (fun e w'=>e=.returned (mc s)/\Below w w w'):=by
 have H:=za h;have f:=za h.len;obtain⟨z,D,E,i,C⟩:∃z D E,w.cell? (gf,195)=some (.slice (some ⟨z,D,none⟩) 32 E)/\z<w.heap.size:=by obtain⟨z,D,E,P,J,K,i,C,_⟩:=oX h 0 (by omega) _ (zh (by rw[h.len];omega));exact⟨z,D,E,i,C⟩
 have A:=za i;clear h;go_enter func147,ntmps147;go_wp2;go_loopw [11] (fun O wr=>∃j:Nat,j<=32/\O=.int .i64 j/\Hid (∀q,q<j->∃X,s.nodes[q]?=some X/\X.k≠0)/\Hid (Below w w wr)) (fun O _=>32-(intOf O).toNat);case atStart=>exact⟨0,ye _,rfl,fun q n=>zY n (kt q),zB⟩
 case round=>
  obtain⟨j,hj,rfl,x,r⟩:=hrel;by_cases d:j<32
  .have N:(j:Int)<32:=(by omega);obtain⟨X,R⟩:∃X,Hid (s.nodes[j]?=some X):=⟨_,za (zh (by rw[f.o];exact d))⟩;obtain⟨ac,ab,aa,P,J,K,c,S,T,e1,e2,e3,e4,e5,e6,e7,_⟩:=oX (H.o.below r.o) j d X R.o;have L:=(r.o.cell (p:=⟨gf,195,none⟩) (zG A.o)).trans A.o;rw[L]at c;injection c with c;injection c with B _ W;injection B with B;injection B with B Y;subst B Y W;obtain⟨y,Q⟩:=zD X.k;rw[Q.o]at T;have V:¬z=wr.heap.size:=(by omega);by_cases M:y=0
   .subst M;have v:Hid (mc s=.tuple #[.int .i64 (j+1),()]):=by
     show _=_;have e:pb s=some j:=by
      unfold pb;rw[xP];refine⟨by rw[f.o];exact d,?_,fun q n=>?_⟩
      .have b:=R.o;rw[zh (by rw[f.o];exact d)]at b;injection b with b;rw[b,Q.o];rfl
      .obtain⟨Z,b,G⟩:=x.o q n;rw[zh (by rw[f.o];omega)]at b;injection b with b;rw[b];simpa using G
     unfold mc;rw[e]
    have t:Hid (Below w w (wr.alloc (.cells #[(),X.m,X.u,X.g,X.s,X.l,X.up,(P,J,K)] 123))):=r.o.alloc r.o.size _;go_wp2;go_ret2;exact⟨by rw[v.o];rfl,t.o⟩
   .have b0:(y==0)=false:=(by simpa using M);have t:Hid (Below w w (wr.alloc (.cells #[y,X.m,X.u,X.g,X.s,X.l,X.up,(P,J,K)] 123))):=r.o.alloc r.o.size _;have I:Hid (∀q,q<j+1->∃X,s.nodes[q]?=some X/\X.k≠0):=fun q n=>by
     by_cases b:q=j
     .exact⟨X,by rw[b];exact R.o,by rw[Q.o];exact M⟩
     .exact x.o q (by omega)
    go_wp2;go_roundw;case rel=>exact⟨j+1,by omega,by go_num,I,t⟩
    case measure=>simp[intOf];omega
  .obtain rfl:j=32:=(by omega);have v:Hid (mc s=.tuple #[(),(6:Int)]):=(by show _=_;have e:pb s=none:=(by unfold pb;rw[vV];intro X U;obtain⟨q,n,rfl⟩:=va U;obtain⟨Z,b,G⟩:=x.o q (by rw[f.o]at n;exact n);rw[zh n]at b;injection b with b;rw[b];simpa using G);unfold mc;rw[e]);go_wp2;go_ret2;exact⟨by rw[v.o];rfl,r.o⟩
structure rX (s:Fs) (x:Tx):Prop where
 s8:∀X∈s.nodes,X.P.length<=8
 x8:∀X∈x.nodes,X.P.length<=8
 dv:∀y∈x.dirty,y.2=.bool true
 fk:256<=x.fake/\x.fake<900000
 nd:∀i,i<16->0<=x.fo.nd 0 i/\x.fo.nd 0 i<=x.fake
 td:s.todo.length<=1000
 pt:x.put.length<=800
 ok:mD s x=true->(vP s.k x 16).full=false->EndOk x s
def uB (w:World) (gf:Nat) (s':Fs) (F:Nat->Prop) (a:Addr) (w':World):Prop:=∃F',FsAt w' gf s' F' a/\(∀i,F' i->F i\/w.heap.size<=i)/\yQ F w w'
theorem uB.after {s':Fs} (h:uB w0 gf s' F a w') (g:Below w w w0):uB w gf s' F a w':=by obtain⟨c,e,d,f⟩:=h;exact⟨c,e,fun i b=>(d i b).imp id fun h=>zt g.size h,(yQ.of_below g).trans f fun i b=>zr b⟩
theorem uB.same (h:FsAt w gf s F a) (c:Below w w w'):uB w gf s F a w':=⟨F,h.below c,fun _ b=>zr b,yQ.of_below c⟩
theorem ms {T:Nat->Prop} {gt:Nat} {x:Tx} (d:FsAt w0 gf s F a) (f:Below w0 w0 w) (h:TxAt w w0 F gt (gf,()) x T) (c:rX s x):
 Calls prog 64 #[(gt,())] w (fun e w'=>e=.returned (.int .i64 (endE s x))/\uB w0 gf (endS s x) F a w'):=
 Th d f h (fun _ b=>b) c.s8 c.x8 c.dv c.fk c.nd c.td c.pt c.ok
def newP (k m u g:Int) (i:Nat):Pn:=⟨k,m,u,g,0,1,if k=2 then i+1 else 0,[]⟩
def Tx.setX (x:Tx) (i:Nat) (N:Pn):Tx:={x with nodes:=x.nodes.set i N,dirty:=putZ x.dirty (i+1) (.bool true)}
def addT (s:Fs) (n:Nat) (N:Pn) (b:List Int):Tx:=((tx0 s).setX n N).fillX s.k n N b
def Tx.dirD (x:Tx) (s:Fs) (i:Nat):List Int:=tO (secT x s) (x.nodes.getD i zN).P (x.nodes.getD i zN).s
def Tx.entX (x:Tx) (s:Fs) (i:Nat) (e:En):Tx:=x.fillX s.k i (x.nodes.getD i zN) (layD (outD (x.dirD s i)++[e]))
def addM (s:Fs) (i:Nat) (D:List Int) (name:ByteArray) (k m u g:Int) (b:List Int):(Int×Int)×Fs:=
 if qf D name=0 then match pb s with
  | none=>((0,6),s)
  | some n=>
   let x:=addT s n (newP k m u g i) b
   let e:En:=(name,n+1)
   if tc (x.dirD s i) e=0 then (if endE s (x.entX s i e)=0 then (n+1,0) else (0,endE s (x.entX s i e)),endS s (x.entX s i e)) else ((0,tc (x.dirD s i) e),s)
 else ((0,qf D name),s)
structure pN (s:Fs) (i n:Nat) (N:Pn) (b:List Int) (name:ByteArray):Prop where
 room:lS (addT s n N b)
 dir:DirT (addT s n N b) s i ((addT s n N b).nodes.getD i zN) ((addT s n N b).dirD s i)
 run:tc ((addT s n N b).dirD s i) (name,(n:Int)+1)=0->rX s ((addT s n N b).entX s i (name,(n:Int)+1))
theorem Y2 (h:FsAt w gf s F a) (i) (X) (D) (hd:DirS s i X D) (name) (ak:rW name=true) (k m u g) (v) (b) (hv:sx w v b) (hb:b.length<=512) (aa:∀q,v.ownBlock=some q->q<w.heap.size)
 (ag:qf D name=0->∀n,pb s=some n->pN s i n (newP k m u g i) b name):
 Calls prog 102 #[(gf,()),.int .i64 (i+1),.string name,.agg #[.int .i64 k,.int .i64 m,.int .i64 u,.int .i64 g,(),(),(),.slice none 0 0],v] w
  (fun e w'=>e=.returned (.tuple #[.int .i64 (addM s i D name k m u g b).1.1,.int .i64 (addM s i D name k m u g b).1.2])/\uB w gf (addM s i D name k m u g b).2 F a w'):=by
 have H:=za h;have HV:=za hv;have aO:=za aa;have aB:=za hb;have aG:=za ag;have hi:=hd.lt;have ad:Hid (Below w w (w.alloc (.cells #[k,m,u,g,(),(),(),.slice none 0 0] 123))):=zB.alloc zL _;have aw:Hid ((w.alloc (.cells #[k,m,u,g,(),(),(),.slice none 0 0] 123)).heap[w.heap.size]?=some (.cells #[k,m,u,g,(),(),(),.slice none 0 0] 123)):=zH;have U:=za (fun (W:World) (hW:Below w w W)=>WW (h.below hW) i X D hd name ak);have am:=za (fun (W:World) (hW:Below w w W)=>Qg (h.below hW));have Q:=za h.fin;have P:=za h.len;obtain⟨R,HR⟩:=zD (addM s i D name k m u g b);rw[HR.o];obtain⟨⟨ra,rb⟩,rs⟩:=R;obtain⟨pe,A⟩:=zD (qf D name);rw[A.o]at U;clear h hd hv aa hb ag;go_enter func102,ntmps102;go_wp2_with fail
 refine (U.o _ ad.o).mono ?_;rintro e w1 ⟨rfl,af⟩;have L:=za (zf ad.o af);have ao:=za (wy af aw.o);clear af;by_cases M:pe=0;case neg=>
  have b0:(pe==0)=false:=by simpa using M
  have b1:(pe != 0)=true:=by simpa using M
  have d:Hid (ra=0/\rb=pe/\rs=s):=by have c:=HR.o;unfold addM at c;rw[A.o,zb M]at c;injection c with c l;injection c with c I;exact⟨c.symm,I.symm,l.symm⟩
  go_wp2;go_ret2;exact⟨by rw[d.o.1,d.o.2.1];rfl,by rw[d.o.2.2];exact uB.same H.o L.o⟩
 subst M;go_wp2_with fail
 refine (am.o w1 L.o).mono ?_;rintro e w2 ⟨O,Z⟩;have V:=za (zf L.o Z);have j:=za (wy Z ao.o);clear Z;obtain⟨fm,x⟩:=zD (pb s);unfold mc at O;rw[x.o]at O;cases fm with
 | none=>
  subst O;have d:Hid (ra=0/\rb=6/\rs=s):=by have c:=HR.o;unfold addM at c;rw[A.o,ze rfl,x.o]at c;injection c with c l;injection c with c I;exact⟨c.symm,I.symm,l.symm⟩
  go_wp2;go_ret2;exact⟨by rw[d.o.1,d.o.2.1];rfl,by rw[d.o.2.2];exact uB.same H.o V.o⟩
 | some n=>
  subst O;have t:n<32:=by have c:=x.o;unfold pb at c;rw[xP]at c;obtain⟨l,_⟩:=c;rw[<-P.o];exact l
  have G:=za (aG.o A.o n x.o);obtain⟨up,ab⟩:∃z:Int,Hid ((if k=2 then (i:Int)+1 else 0)=z):=⟨_,za rfl⟩;have s0:=(uT j.o).1;have z5:w2.frozen? (w.heap.size,5)=false:=zF j.o;have z6:w2.frozen? (w.heap.size,6)=false:=zF j.o;have s5:=(uT j.o).2.2.2.2.2.1;have s6:=(uT j.o).2.2.2.2.2.2.1;have y:Hid (Below w w (w2.setCell (w.heap.size,5) (.int .i64 1))):=V.o.setCell (p:=⟨w.heap.size,5,none⟩) zL _;have C:Hid ((w2.setCell (w.heap.size,5) (.int .i64 1)).heap[w.heap.size]?=some (.cells #[k,m,u,g,(),(1:Int),(),.slice none 0 0] 123)):=yb _ _ 5 _ _ _ j.o
  go_upto_if 36 with fail
  go_cut [0,1,2,4,8,13] (fun s0 s1 s2 s4 s8 aE wx=>s0=.pointer (some ⟨gf,0,none⟩)/\s1=.int .i64 ((i:Int)+1)/\s2=.string name/\s4=v/\s8=.pointer (some ⟨w.heap.size,0,none⟩)/\aE=.int .i64 ((n:Int)+1)/\Hid (wx.heap[w.heap.size]?=some (.cells #[k,m,u,g,(),(1:Int),up,.slice none 0 0] 123))/\Hid (Below w w wx))
  case first=>
   by_cases hk:k=2
   .have b0:(k==2)=true:=(by simp[hk]);have S:Hid (up=i+1):=(by show _=_;rw[<-ab.o,ze hk]);go_wp2
    go_meet
    case rel =>refine⟨rfl,rfl,rfl,rfl,rfl,rfl,?_,y.o.setCell (p:=⟨w.heap.size,6,none⟩) zL _⟩;show _=_;rw[S.o];exact yb _ _ 6 _ _ _ C.o
   .have b0:(k==2)=false:=(by simpa using hk);have S:Hid (up=0):=(by show _=_;rw[<-ab.o,zb hk]);go_wp2
    go_meet
    case rel=>exact⟨rfl,rfl,rfl,rfl,rfl,rfl,by rw[S.o];exact C,y⟩
  case rest=>
  obtain⟨rfl,rfl,rfl,rfl,rfl,rfl,aH,f⟩:=hcut;have aq:Hid (newP k m u g i=⟨k,m,u,g,0,1,up,[]⟩):=by show _=_;unfold newP;rw[ab.o]
  obtain⟨N,HN⟩:∃N:Pn,Hid (N=⟨k,m,u,g,0,1,up,[]⟩):=⟨_,za rfl⟩;rw[aq.o,<-HN.o]at G;clear s0 s5 s6 z5 z6 y C j V ao L aw ad U am;have E:=za (H.o.below f.o);have aF:=za (oA E.o);go_wp2_with fail
  refine aF.o.mono ?_;rintro e w4 ⟨gt,T,rfl,ae,hT⟩;have aL:=za ae;have B:=lP hT n t N none 0 0 (fun w' _=>by rw[HN.o];exact⟨rfl,zr ⟨rfl,_,_,rfl⟩⟩) (by show (0:Nat)<900;omega);rw[HN.o]at B;have av:=za B;have HT:=za hT;obtain⟨n0,n1,n2,n3,n4,n5,n6,n7⟩:=uT (wy ae aH.o);clear ae hT B;go_wp2_with fail
  refine av.o.mono ?_;rintro e w5 ⟨rfl,d5⟩;rw[<-HN.o]at d5;have ap:uc wc F gt (gf,()) ((tx0 s).setX n N) T w4 w5:=d5;have J:=za (ap.old aL.o HT.o);obtain⟨T5,t5,u5,v5,k5⟩:=ap;have aM:Hid (((tx0 s).setX n N).nodes[n]?=some N):=tm (by show n<s.nodes.length;rw[P.o];exact t);have ah:=gO E.o J.o t5 (fun r hr=>zo (Q.o r hr) (zt f.o.size J.o.size)) n t N aM.o u4 b (HV.o.below (f.o.trans (J.o.mono f.o.size))) (fun q hq hc=>by have c:=aO.o q hq;have l:=t5.new q hc;have:=f.o.size;omega) aB.o (by rw[HN.o];exact ye _) (fun p hp=>by rw[HN.o]at hp;cases hp) (by show (256:Int)<=256/\(256:Int)<900000;omega) (by show (0:Nat)<=900;omega) (by show (0:Nat)<800;omega) (by have:=oy ((n:Int)+1) (Value.bool true) ([]:List (Int×Value));show (putZ [] _ _).length<900;simp at this;omega);have aK:=za ah;have aC:=za t5;clear t5 u5 v5 k5 ah d5;go_wp2_with fail
  refine aK.o.mono ?_;rintro e w6 ⟨rfl,d6⟩;have ay:uc wc F gt (gf,()) (addT s n N b) T5 w5 w6:=d6;have K:=za (ay.old J.o aC.o);obtain⟨T6,t6,u6,v6,k6⟩:=ay;have ar:=za (ZX E.o K.o t6 (fun r hr=>zo (Q.o r hr) (zt f.o.size K.o.size)) G.o.room i _ _ G.o.dir (name,(n:Int)+1));have ax:=za t6;clear t6 u6 v6 k6 d6;obtain⟨q,Hq⟩:=zD (tc ((addT s n N b).dirD s i) (name,(n:Int)+1));rw[Hq.o]at ar;have HM:Hid (addM s i D name k m u g b=if q=0 then (if endE s ((addT s n N b).entX s i (name,n+1))=0 then ((n:Int)+1,0) else (0,endE s ((addT s n N b).entX s i (name,n+1))),endS s ((addT s n N b).entX s i (name,n+1))) else ((0,q),s)):=by show _=_;unfold addM;rw[A.o,ze rfl,x.o,aq.o,<-HN.o];show (if tc ((addT s n N b).dirD s i) (name,(n:Int)+1)=0 then _ else _)=_;rw[Hq.o]
  rw[HR.o]at HM;go_wp2_with fail
  refine ar.o.mono ?_;rintro e w7 ⟨rfl,d7⟩;by_cases hq:q=0;case neg=>
   rw[zb hq]at d7;have b0:(q==0)=false:=(by simpa using hq);have b1:(q != 0)=true:=(by simpa using hq);have d:Hid (ra=0/\rb=q/\rs=s):=(by have c:=HM.o;rw[zb hq]at c;injection c with c l;injection c with c I;exact⟨c,I,l⟩);have Y:=za (d7.old K.o ax.o);clear d7;go_wp2;go_ret2;exact⟨by rw[d.o.1,d.o.2.1];rfl,by rw[d.o.2.2];exact uB.after (uB.same E.o Y.o) f.o⟩
  subst hq;rw[ze rfl]at d7;have Y:=za (d7.old K.o ax.o);obtain⟨T7,t7,u7,v7,k7⟩:=d7;have aI:=za (ms E.o Y.o t7 (G.o.run Hq.o));clear t7 u7 v7 k7;obtain⟨z,Hz⟩:=zD (endE s ((addT s n N b).entX s i (name,(n:Int)+1)));rw[Hz.o,ze rfl]at HM;have a7:Hid (Calls prog 64 #[(gt,())] w7 (fun e w'=>e=.returned z/\uB wc gf (endS s ((addT s n N b).entX s i (name,n+1))) F a w')):=by show _;rw[<-Hz.o];exact aI.o
  go_wp2_with fail
  refine a7.o.mono ?_;rintro e w8 ⟨rfl,d8⟩;have aj:=za (d8.after f.o);clear d8;by_cases hz:z=0
  .subst hz;have d:Hid (ra=n+1/\rb=0/\rs=endS s ((addT s n N b).entX s i (name,n+1))):=(by have c:=HM.o;rw[ze rfl]at c;injection c with c l;injection c with c I;exact⟨c,I,l⟩);go_wp2;go_ret2;exact⟨by rw[d.o.1,d.o.2.1];rfl,by rw[d.o.2.2];exact aj.o⟩
  .have b0:(z==0)=false:=(by simpa using hz);have b1:(z != 0)=true:=(by simpa using hz);have d:Hid (ra=0/\rb=z/\rs=endS s ((addT s n N b).entX s i (name,n+1))):=(by have c:=HM.o;rw[zb hz]at c;injection c with c l;injection c with c I;exact⟨c,I,l⟩);go_wp2;go_ret2;exact⟨by rw[d.o.1,d.o.2.1];rfl,by rw[d.o.2.2];exact aj.o⟩
