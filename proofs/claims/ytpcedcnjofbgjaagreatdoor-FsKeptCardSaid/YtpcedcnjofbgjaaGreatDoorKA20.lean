import Derived.Test.YtpcedcnjofbgjaaGreatDoorKA19
set_option maxHeartbeats 0
set_option linter.all false
set_option maxRecDepth 100000
namespace Go.Proofs.YtpcedcnjofbgjaaGreatDoor
open Go.Proofs.Tryz Go.RowKit
variable {D g:List Int} {F:Nat->Prop} {L:List Wr} {N X:Pn} {T:List Nat} {a:Addr} {b gf i j k kd m n:Nat} {e:En} {f:Nat->List Int} {l:List En} {o:Ow} {ow:Int->Option (Nat×Nat)} {p sq:Int} {put:List (Int×List Int)} {s s':Fs} {w w' w0:World} {α:Type}
theorem mM (N) (P) (s):(sF N P s).length<=s.toNat:=by rw[sF,Ni];lia
theorem QW {g:Nat} {a0 a1 a2 a3 a4 a5:Value} {t:TypeId} {fr:Nat×Nat} (h:w.heap[g]?=some (.cells #[a0,a1,a2,a3,a4,a5] t fr)):
 w.cell? (g,0)=some a0/\w.cell? (g,1)=some a1/\w.cell? (g,2)=some a2/\w.cell? (g,3)=some a3/\w.cell? (g,4)=some a4/\w.cell? (g,5)=some a5:=
 have c:=λi=>xQ _ _ i _ _ _ h
 ⟨c 0,c 1,c 2,c 3,c 4,c 5⟩
def Va (X:Pn):Value:=if X.k=0 then .tuple #[.agg #[(),(),(),(),(),()],(4:Int)] else .tuple #[.agg #[X.k,X.m,X.u,X.g,X.s,X.l],()]
theorem KR (h:FsAt w gf s F a) (i:Nat) (hi:i<32) (X) (hX:s.nodes[i]?=some X):
 Calls prog 25 #[(gf,()),(i+1:Int)] w (κ w (Va X)):=by
 have c:=za (λW (K:Below w w W)=>sU (h.below K) i hi X hX);obtain⟨U,on,cn,yq,yn,yc,j,T,G,e1,e2,e3,e4,e5,e6,e7,R⟩:=sx h i hi X hX;have J:gf<w.heap.size:=zy j;have N:¬gf=w.heap.size:=by omega
 have O:¬U=w.heap.size:=by omega
 have i1:IntKind.i64.wrap (i+1-1)=i:=by rw[zM _ (by omega)];omega
 obtain⟨y,Z⟩:=zD X.k;unfold Va;rw[Z.o]at G c |-;clear h hX R;by_cases q:y=0
 .subst q;rw[ze rfl];rw[show decide ((0:Int)≠0)=false from rfl]at c;go_enter func25,ntmps25;go_wp2_with fail
  refine (c.o _ (zB.alloc zL _)).mono ?_;rintro e H ⟨rfl,rfl⟩;go_wp2;have Q:=zO w (.cells #[(),(),(),(),(),()] 52);obtain⟨E,C,A,D,B,z⟩:=QW Q;exact yE (v:=.tuple #[.agg #[(),(),(),(),(),()],(4:Int)]) (by simp[results,results25,go_sem,E,C,A,D,B,z]) rfl ⟨rfl,zB.alloc zL _⟩
 .rw[zb q];rw[show decide (y≠0)=true from zX q]at c;go_enter func25,ntmps25;go_wp2_with fail
  refine (c.o _ (zB.alloc zL _)).mono ?_;rintro e H ⟨rfl,rfl⟩;have V:Hid ((w.alloc (.cells #[(),(),(),(),(),()] 52)).heap[w.heap.size]?=some (.cells #[(),(),(),(),(),()] 52)):=zH;have n:Hid (Below w w (w.alloc (.cells #[(),(),(),(),(),()] 52))):=zB.alloc zL _;go_wp2_with fail
  refine (IY y X.m X.u X.g X.s X.l X.up _ _).mono ?_;rintro e d ⟨rfl,f⟩;have b:=za (xV f V.o);have r:=za (zi n.o f);obtain⟨E,C,A,D,B,z⟩:=QW b.o;have f0:d.frozen? (w.heap.size,0)=false:=zF b.o;have f1:d.frozen? (w.heap.size,1)=false:=zF b.o;have f2:d.frozen? (w.heap.size,2)=false:=zF b.o;have f3:d.frozen? (w.heap.size,3)=false:=zF b.o;have f4:d.frozen? (w.heap.size,4)=false:=zF b.o;have f5:d.frozen? (w.heap.size,5)=false:=zF b.o;clear f;go_wp2;have x:Below w w ((((((d.setCell (w.heap.size,0) (.int .i64 y)).setCell (w.heap.size,1) (.int .i64 X.m)).setCell (w.heap.size,2) (.int .i64 X.u)).setCell (w.heap.size,3) (.int .i64 X.g)).setCell (w.heap.size,4) (.int .i64 X.s)).setCell (w.heap.size,5) (.int .i64 X.l)):=(((((r.o.setCell (p:=⟨w.heap.size,0,none⟩) zL _).setCell (p:=⟨w.heap.size,1,none⟩) zL _).setCell (p:=⟨w.heap.size,2,none⟩) zL _).setCell (p:=⟨w.heap.size,3,none⟩) zL _).setCell (p:=⟨w.heap.size,4,none⟩) zL _).setCell (p:=⟨w.heap.size,5,none⟩) zL _;have t:((((((d.setCell (w.heap.size,0) (.int .i64 y)).setCell (w.heap.size,1) (.int .i64 X.m)).setCell (w.heap.size,2) (.int .i64 X.u)).setCell (w.heap.size,3) (.int .i64 X.g)).setCell (w.heap.size,4) (.int .i64 X.s)).setCell (w.heap.size,5) (.int .i64 X.l)).heap[w.heap.size]?=some (.cells #[y,X.m,X.u,X.g,X.s,X.l] 52):=
   zT _ _ 5 _ _ _ (zT _ _ 4 _ _ _ (zT _ _ 3 _ _ _ (zT _ _ 2 _ _ _ (zT _ _ 1 _ _ _ (zT _ _ 0 _ _ _ b.o)))))
  generalize (((((d.setCell (w.heap.size,0) (.int .i64 y)).setCell (w.heap.size,1) (.int .i64 X.m)).setCell (w.heap.size,2) (.int .i64 X.u)).setCell (w.heap.size,3) (.int .i64 X.g)).setCell (w.heap.size,4) (.int .i64 X.s)).setCell (w.heap.size,5) (.int .i64 X.l)=w3 at *
  obtain⟨I,L,Y,M,S,P⟩:=QW t;exact yE (v:=.tuple #[.agg #[y,X.m,X.u,X.g,X.s,X.l],()]) (by simp[results,results25,go_sem,I,L,Y,M,S,P]) rfl ⟨rfl,x⟩
def tx0 (s:Fs):Tx:=⟨s.fo,s.rows,s.nodes,[],[],[],false,256⟩
structure DirS (s:Fs) (i:Nat) (X:Pn) (D:List Int):Prop where
 lt:i<32
 nd:s.nodes[i]?=some X
 k:X.k=2
 l:0<X.l
 pts:Zm X.P s.k
 len:X.P.length<=8
 sz:0<=X.s/\X.s<=64*(X.P.length:Int)
 by_:sF (secE s) X.P X.s=D
 byte:qC D
 ok:oB D=true
theorem Ql {P:List Int} {x:Tx} (h:Zm P s.k) (b:s.k<=256):∀p∈P,PtR x s p:=λp a=>⟨(h p a).1,by have:=(h p a).2;lia,zu (h p a).2⟩
def NC (D:List Int) (name:ByteArray):Int:=if (rI D name).2.2=0 then 5 else 0
theorem P1 {D:List Int} {n:Nat} {name:ByteArray}:∀f q k,(Zw D n name f q k).2.2=0\/(Zw D n name f q k).2.2=4/\(Zw D n name f q k).1=0
 | 0,_,_=>zw ⟨rfl,rfl⟩
 | f+1,q,k=>by
  unfold Zw;split
  .split
   .exact zu rfl
   .split
    .exact P1 f _ _
    .exact P1 f _ _
  lia
theorem OS {D:List Int} {name:ByteArray}:∀f q k,(Zw D (D.length / 16) name f q k).2.2=0->∃m,m<D.length / 16/\(Zw D (D.length / 16) name f q k).1=(rdE D m).2/\cmpB name (rdE D m).1=0
 | 0,_,_,h=>by cases h
 | f+1,q,k,h=>by
  unfold Zw at h |-;split at h
  .rename_i c;rw[ze c];split at h
   .grind
   .rename_i a;rw[zb a];split at h
    .rename_i b;rw[ze b];exact OS f _ _ h
    .rename_i b;rw[zb b];exact OS f _ _ h
  .cases h
theorem Dr (d:n<=32) (m) (c:m<n):m∈ino n 0:=by
 have h:((List.range 33).all λn=>(List.range n).all λm=>(ino n 0).contains m)=true:=by kernel_rfl
 have b:=xp.1 h n (xy.2 (by lia));simp_all
theorem Pq (h:FsAt w gf s F a) (i) (X) (D) (O:DirS s i X D) (name) (P:tM name=true):
 Calls prog 55 #[(gf,()),(i+1:Int),.string name] w (κ w (.tuple #[.int .i64 (rI D name).1,.int .i64 (rI D name).2.2])):=by
 have d:=za (PZ name);rw[P]at d;have m:=za (rn h i O.lt X O.nd);rw[O.k,zb (by lia),ze rfl]at m;have H:=za h;have x:Hid (∀(g) (T) (W),Below w w W->TxAt W w F g (gf,()) ⟨s.fo,s.rows,s.nodes,[],[],[],false,256⟩ T ->
  Calls prog 106 #[(g,()),(i+1:Int)] W (λe w'=>∃v,e=.returned v/\mU w' v D/\Below W W w')):=λg T W C E=>by
  have:=kO E (h.below C) i O.lt X O.nd (Ql O.pts h.k1) O.len O.sz;have K:secT ⟨s.fo,s.rows,s.nodes,[],[],[],false,256⟩ s=secE s:=by funext n;rfl
  rw[K,O.by_]at this;exact this.mono λe w' ⟨v,G,A,J⟩=>⟨v,G,⟨uq.of_owns A,pO A⟩,J⟩
 have b:Hid (∀(v) (W),mU W v D->Calls prog 108 #[v,.string name] W (YC (rI D name) W)):=λv W q=>Lm v D name W q O.byte O.ok;let⟨r,I⟩:=zD (rI D name);rw[I.o]at b |-;go_enter func55,ntmps55;go_wp2_with fail
 refine (d _).mono ?_;rintro e w' ⟨rfl,rfl⟩;go_wp2_with fail
 refine m.o.mono ?_;rintro e w' ⟨rfl,rfl⟩;go_wp2_with fail
 refine (za (tH h)).o.mono ?_;rintro e B ⟨g,T,rfl,l,c⟩;have f:=za l;go_wp2_with fail
 refine (x g T B f (za c).o).mono ?_;rintro e M ⟨v,rfl,q,j⟩;go_wp2_with fail
 refine (b v M (za q).o).mono ?_;rintro e N ⟨rfl,p⟩;go_wp2;go_ret2;exact⟨rfl,(za (zi (za (zi f.o j)).o p))⟩
theorem SK (h:FsAt w gf s F a) (i) (X) (D) (j:DirS s i X D) (name) (g:tM name=true):
 Calls prog 21 #[(gf,()),(i+1:Int),.string name] w (κ w (.tuple #[.int .i64 (rI D name).1,.int .i64 (rI D name).2.2])):=by
 have d:=za (Pq h i X D j name g);generalize rI D name=r at *
 go_enter func21,ntmps21
 go_wp2_with fail
 refine d.o.mono ?_;rintro e f ⟨rfl,b⟩;go_wp2;go_ret2;exact⟨rfl,(za b).o⟩
theorem US (h:FsAt w gf s F a) (i) (X) (D) (hd:DirS s i X D) (name) (ab:tM name=true):
 Calls prog 92 #[(gf,()),(i+1:Int),.string name] w (κ w (NC D name:Int)):=by
 have J:=za (Pq h i X D hd name ab);have C:Hid (∀W,Below w w W->Calls prog 66 #[(gf,()),(i+1:Int)] W (λe w'=>e=.returned (.bool true)/\W=w')):=λW A=>by have:=sU (h.below A) i hd.lt X hd.nd;rwa[show decide (X.k≠0)=true from zX (by rw[hd.k];decide)]at this
 have u:Hid (∀W,Below w w W->∃p q x,W.cell? (gf,195)=some (.slice (some ⟨p,q,none⟩) 32 x)/\p<W.heap.size/\W.cell? ⟨p,q+i*8+5,none⟩=some (.int .i64 X.l)):=λW A=>have⟨p,q,x,yq,O,P,f,t,N,Y,R,Z,e4,H,_⟩:=sx (h.below A) i hd.lt X hd.nd;⟨p,q,x,f,t,H⟩
 have T:IntKind.i64.wrap (i+1-1)=i:=by rw[zM _ (by have:=hd.lt;lia)];lia
 have S:=hd.lt;have K:=hd.l;let⟨y,M⟩:=zD X.l;rw[M.o]at u K;have Q:=zX K;let⟨r,j⟩:=zD (rI D name);have g:Hid ((r.2.2=0/\NC D name=5/\0<r.1)\/(r.2.2=4/\NC D name=0)):=by
  rw[NC,j.o];rcases P1 (D:=D) (n:=D.length / 16) (name:=name) 7 0 0 with c|⟨c,_⟩
  .refine zu ⟨by rwa[<-j.o],by rw[ze (by rwa[<-j.o])],?_⟩;let⟨m,b,z,_⟩:=OS 7 0 0 c;have B:=((qO _).1 (su hd.ok).2.1).2.1 (rdE D m) (by exact yd.2 ⟨m,(Dr (by have:=(ND D).1 hd.ok;lia) m b),rfl⟩);rw[<-j.o];rw[show (rI D name).1=(rdE D m).2 from z];have:=(kK B).2.1;lia
  .have b:r.2.2=4:=(by rwa[<-j.o]);exact zw ⟨b,by rw[zb (by rw[b];decide)]⟩
 rw[j.o]at J;go_enter func92,ntmps92;go_wp2_with fail
 refine J.o.mono ?_;rintro e G ⟨rfl,v⟩;have d:=za v;let⟨L,U,I⟩:=r;rcases g.o with⟨c,b,z⟩|⟨c,b⟩
 .have E:=za b;obtain rfl:I=0:=c;have B:0<L:=z;have V:=zX B;clear b z g;go_wp2;go_ret;exact⟨by rw[E.o];rfl,d⟩
 .have E:=za b;obtain rfl:I=4:=c;clear b g;let⟨p,q,x,f,t,H⟩:=u.o G d;go_wp2_with fail
  refine (C G d).mono ?_;rintro e w2 ⟨rfl,rfl⟩;go_wp2;go_ret;exact⟨by rw[E.o];rfl,d⟩
def Rx (s:Fs):Option Nat:=s.nodes.findIdx? λX=>decide (X.k=0)
def XC (s:Fs):Value:=match Rx s with|some m=>.tuple #[.int .i64 (m+1),()]|none=>.tuple #[(),(6:Int)]
theorem Lk (h:FsAt w gf s F a):
 Calls prog 114 #[(gf,())] w (κ w (XC s)):=by
 have H:=za h;have f:=za h.len;obtain⟨z,D,E,i,C⟩:∃z D E,w.cell? (gf,195)=some (.slice (some ⟨z,D,none⟩) 32 E)/\z<w.heap.size:=by obtain⟨z,D,E,P,J,K,i,C,_⟩:=sx h 0 (by lia) _ (zk (by rw[h.len];lia));exact⟨z,D,E,i,C⟩
 have A:=za i;clear h;go_enter func114,ntmps114;go_wp2;go_loopw [11] (λO wr=>∃j:Nat,j<=32/\O=.int .i64 j/\Hid (∀q,q<j->∃X,s.nodes[q]?=some X/\X.k≠0)/\Hid (Below w w wr)) (λO _=>32-(intOf O).toNat)
 .exact⟨0,yh _,rfl,λq n=>yi n (MA q),zB⟩
 .obtain⟨j,hj,rfl,x,r⟩:=hrel;by_cases d:j<32
  .have N:(j:Int)<32:=(by lia);obtain⟨X,R⟩:∃X,Hid (s.nodes[j]?=some X):=⟨_,za (zk (by rw[f.o];exact d))⟩;obtain⟨ac,ab,aa,P,J,K,c,S,T,e1,e2,e3,e4,e5,e6,e7,_⟩:=sx (H.o.below r) j d X R;rw[(r.o.cell (p:=⟨gf,195,none⟩) (zy A.o)).trans A.o]at c;injection c with c;injection c with B _ W;injection B with B;injection B with B Y;subst B Y W;obtain⟨y,Q⟩:=zD X.k;rw[Q.o]at T;have V:¬z=wr.heap.size:=(by lia);by_cases M:y=0
   .subst M;have v:Hid (XC s=.tuple #[.int .i64 (j+1),()]):=by
     show _=_;have e:Rx s=some j:=by
      rw[Rx,xG];refine⟨by rw[f.o];exact d,?_,λq n=>?_⟩
      .have b:=R.o;rw[zk (by rw[f.o];exact d)]at b;injection b with b;rw[b,Q.o];rfl
      .obtain⟨Z,b,G⟩:=x.o q n;rw[zk (by rw[f.o];lia)]at b;injection b with b;rw[b];simpa using G
     rw[XC,e]
    have t:Hid (Below w w (wr.alloc (.cells #[(),X.m,X.u,X.g,X.s,X.l,X.up,(P,J,K)] 102))):=r.o.alloc r.o.size _;go_wp2;go_ret2;exact⟨by rw[v.o];rfl,t⟩
   .have b0:(y==0)=false:=(by simpa using M);have t:Hid (Below w w (wr.alloc (.cells #[y,X.m,X.u,X.g,X.s,X.l,X.up,(P,J,K)] 102))):=r.o.alloc r.o.size _;have I:Hid (∀q,q<j+1->∃X,s.nodes[q]?=some X/\X.k≠0):=λq n=>by
     by_cases b:q=j
     .exact⟨X,by rw[b];exact R,by rw[Q.o];exact M⟩
     .exact x q (by lia)
    go_wp2;go_roundw
    .exact⟨j+1,by lia,by go_num,I,t⟩
    .simp[intOf];lia
  .obtain rfl:j=32:=(by lia);have v:Hid (XC s=.tuple #[(),(6:Int)]):=(by show _=_;have e:Rx s=none:=(by rw[Rx,vl];intro X U;obtain⟨q,n,rfl⟩:=wv U;obtain⟨Z,b,G⟩:=x.o q (by rw[f.o]at n;exact n);rw[zk n]at b;injection b with b;rw[b];simpa using G);rw[XC,e]);go_wp2;go_ret2;exact⟨by rw[v.o];rfl,r⟩
structure P6 (s:Fs) (x:Tx):Prop where
 s8:∀X∈s.nodes,X.P.length<=8
 x8:∀X∈x.nodes,X.P.length<=8
 dv:∀y∈x.dirty,y.2=.bool true
 fk:256<=x.fake/\x.fake<900000
 nd:∀i,i<16->0<=x.fo.nd 0 i/\x.fo.nd 0 i<=x.fake
 td:s.todo.length<=1000
 pt:x.put.length<=800
 ok:Qy s x=true->(vi s.k x 16).full=false->EndOk x s
def pW (w:World) (gf:Nat) (s':Fs) (F:Nat->Prop) (a:Addr) (w':World):Prop:=∃F',FsAt w' gf s' F' a/\(∀i,F' i->F i\/w.heap.size<=i)/\yK F w w'
theorem pW.after (h:pW w0 gf s' F a w') (g:Below w w w0):pW w gf s' F a w':=have⟨c,e,d,f⟩:=h;⟨c,e,λi b=>(d i b).imp id λh=>zv g.size h,(yK.of_below g).trans f λi b=>zu b⟩
theorem pW.same (h:FsAt w gf s F a) (c:Below w w w'):pW w gf s F a w':=⟨F,h.below c,λ_ b=>zu b,yK.of_below c⟩
theorem kP {T:Nat->Prop} {gt:Nat} {x:Tx} (d:FsAt w0 gf s F a) (f:Below w0 w0 w) (h:TxAt w w0 F gt (gf,()) x T) (c:P6 s x):
 Calls prog 46 #[(gt,())] w (ρ (endE s x:Int) λw'=>pW w0 gf (endS s x) F a w'):=
 CD d f h (λ_ b=>b) c.s8 c.x8 c.dv c.fk c.nd c.td c.pt c.ok
def newP (k m u g:Int) (i:Nat):Pn:=⟨k,m,u,g,0,1,if k=2 then i+1 else 0,[]⟩
def Tx.setX (x:Tx) (i:Nat) (N:Pn):Tx:={x with nodes:=x.nodes.set i N,dirty:=putZ x.dirty (i+1) (.bool true)}
def addT (s:Fs) (n:Nat) (N:Pn) (b:List Int):Tx:=((tx0 s).setX n N).fillX s.k n N b
def Tx.dirD (x:Tx) (s:Fs) (i:Nat):List Int:=sF (secT x s) (x.nodes.getD i zN).P (x.nodes.getD i zN).s
def Tx.entX (x:Tx) (s:Fs) (i:Nat) (e:En):Tx:=x.fillX s.k i (x.nodes.getD i zN) (layD (outD (x.dirD s i)++[e]))
def addM (s:Fs) (i:Nat) (D:List Int) (name:ByteArray) (k m u g:Int) (b:List Int):(Int×Int)×Fs:=
 if NC D name=0 then match Rx s with
  | none=>((0,6),s)
  | some n=>
   let x:=addT s n (newP k m u g i) b
   let e:En:=(name,n+1)
   if vA (x.dirD s i) e=0 then (if endE s (x.entX s i e)=0 then (n+1,0) else (0,endE s (x.entX s i e)),endS s (x.entX s i e)) else ((0,vA (x.dirD s i) e),s)
 else ((0,NC D name),s)
structure Tk (s:Fs) (i n:Nat) (N:Pn) (b:List Int) (name:ByteArray):Prop where
 room:oa (addT s n N b)
 dir:DirT (addT s n N b) s i ((addT s n N b).nodes.getD i zN) ((addT s n N b).dirD s i)
 run:vA ((addT s n N b).dirD s i) (name,(n:Int)+1)=0->P6 s ((addT s n N b).entX s i (name,(n:Int)+1))
theorem DF (h:FsAt w gf s F a) (i) (X) (D) (hd:DirS s i X D) (name) (ak:tM name=true) (k m u g) (v) (b) (hv:mU w v b) (hb:b.length<=512) (aa:∀q,v.ownBlock=some q->q<w.heap.size)
 (ag:NC D name=0->∀n,Rx s=some n->Tk s i n (newP k m u g i) b name):
 Calls prog 69 #[(gf,()),(i+1:Int),.string name,.agg #[(k:Int),(m:Int),(u:Int),(g:Int),(),(),(),.slice none 0 0],v] w
  (ρ (.tuple #[.int .i64 (addM s i D name k m u g b).1.1,.int .i64 (addM s i D name k m u g b).1.2]) λw'=>pW w gf (addM s i D name k m u g b).2 F a w'):=by
 have H:=za h;have HV:=za hv;have aO:=za aa;have aB:=za hb;have aG:=za ag;have hi:=hd.lt;have ad:Hid (Below w w (w.alloc (.cells #[k,m,u,g,(),(),(),.slice none 0 0] 102))):=zB.alloc zL _;have aw:Hid ((w.alloc (.cells #[k,m,u,g,(),(),(),.slice none 0 0] 102)).heap[w.heap.size]?=some (.cells #[k,m,u,g,(),(),(),.slice none 0 0] 102)):=zH;have U:=za (λ(W:World) (hW:Below w w W)=>US (h.below hW) i X D hd name ak);have am:=za (λ(W:World) (hW:Below w w W)=>Lk (h.below hW));have Q:=za h.fin;have P:=za h.len;obtain⟨R,HR⟩:=zD (addM s i D name k m u g b);rw[HR.o];obtain⟨⟨ra,rb⟩,rs⟩:=R;obtain⟨pe,A⟩:=zD (NC D name);rw[A.o]at U;clear h hd hv aa hb ag;go_enter func69,ntmps69;go_wp2_with fail
 refine (U.o _ ad.o).mono ?_;rintro e w1 ⟨rfl,af⟩;have L:=za (zi ad.o af);have ao:=za (xV af aw.o);clear af;by_cases M:pe=0;case neg=>
  have b0:(pe==0)=false:=by simpa using M
  have b1:(pe != 0)=true:=by simpa using M
  have d:Hid (ra=0/\rb=pe/\rs=s):=by have c:=HR.o;unfold addM at c;rw[A.o,zb M]at c;injection c with c l;injection c with c I;exact⟨c.symm,I.symm,l.symm⟩
  go_wp2;go_ret2;exact⟨by rw[d.o.1,d.o.2.1];rfl,by rw[d.o.2.2];exact pW.same H.o L.o⟩
 subst M;go_wp2_with fail
 refine (am.o w1 L.o).mono ?_;rintro e w2 ⟨O,Z⟩;have V:=za (zi L.o Z);have j:=za (xV Z ao.o);clear Z;obtain⟨fm,x⟩:=zD (Rx s);unfold XC at O;rw[x.o]at O;cases fm with
 | none=>
  subst O;have d:Hid (ra=0/\rb=6/\rs=s):=by have c:=HR.o;unfold addM at c;rw[A.o,ze rfl,x.o]at c;injection c with c l;injection c with c I;exact⟨c.symm,I.symm,l.symm⟩
  go_wp2;go_ret2;exact⟨by rw[d.o.1,d.o.2.1];rfl,by rw[d.o.2.2];exact pW.same H.o V.o⟩
 | some n=>
  subst O;have t:n<32:=by have c:=x.o;unfold Rx at c;rw[xG]at c;obtain⟨l,_⟩:=c;rw[<-P.o];exact l
  have G:=za (aG.o A.o n x.o);obtain⟨up,ab⟩:∃z:Int,Hid ((if k=2 then (i:Int)+1 else 0)=z):=⟨_,za rfl⟩;have s0:=(ug j.o).1;have z5:w2.frozen? (w.heap.size,5)=false:=zF j.o;have z6:w2.frozen? (w.heap.size,6)=false:=zF j.o;have s5:=(ug j.o).2.2.2.2.2.1;have s6:=(ug j.o).2.2.2.2.2.2.1;have y:Hid (Below w w (w2.setCell (w.heap.size,5) (.int .i64 1))):=V.o.setCell (p:=⟨w.heap.size,5,none⟩) zL _;have C:Hid ((w2.setCell (w.heap.size,5) (.int .i64 1)).heap[w.heap.size]?=some (.cells #[k,m,u,g,(),(1:Int),(),.slice none 0 0] 102)):=zT _ _ 5 _ _ _ j.o
  go_upto_if 36 with fail
  go_cut [0,1,2,4,8,13] (λs0 s1 s2 s4 s8 aE wx=>s0=.pointer (some ⟨gf,0,none⟩)/\s1=.int .i64 ((i:Int)+1)/\s2=.string name/\s4=v/\s8=.pointer (some ⟨w.heap.size,0,none⟩)/\aE=.int .i64 ((n:Int)+1)/\Hid (wx.heap[w.heap.size]?=some (.cells #[k,m,u,g,(),(1:Int),up,.slice none 0 0] 102))/\Hid (Below w w wx))
  case first=>
   by_cases hk:k=2
   .have b0:(k==2)=true:=(by simp[hk]);have S:Hid (up=i+1):=(by show _=_;rw[<-ab.o,ze hk]);go_wp2
    go_meet
    case rel =>refine⟨rfl,rfl,rfl,rfl,rfl,rfl,?_,y.o.setCell (p:=⟨w.heap.size,6,none⟩) zL _⟩;show _=_;rw[S.o];exact zT _ _ 6 _ _ _ C.o
   .have b0:(k==2)=false:=(by simpa using hk);have S:Hid (up=0):=(by show _=_;rw[<-ab.o,zb hk]);go_wp2
    go_meet
    case rel=>exact⟨rfl,rfl,rfl,rfl,rfl,rfl,by rw[S.o];exact C,y⟩
  case rest=>
  obtain⟨rfl,rfl,rfl,rfl,rfl,rfl,aH,f⟩:=hcut;have aq:Hid (newP k m u g i=⟨k,m,u,g,0,1,up,[]⟩):=by show _=_;unfold newP;rw[ab.o]
  obtain⟨N,HN⟩:∃N:Pn,Hid (N=⟨k,m,u,g,0,1,up,[]⟩):=⟨_,za rfl⟩;rw[aq.o,<-HN.o]at G;clear s0 s5 s6 z5 z6 y C j V ao L aw ad U am;have E:=za (H.o.below f.o);have aF:=za (tH E.o);go_wp2_with fail
  refine aF.o.mono ?_;rintro e w4 ⟨gt,T,rfl,ae,hT⟩;have aL:=za ae;have B:=Zi hT n t N none 0 0 (λw' _=>by rw[HN.o];exact⟨rfl,zu ⟨rfl,_,_,rfl⟩⟩) (by show (0:Nat)<900;omega);rw[HN.o]at B;have av:=za B;have HT:=za hT;obtain⟨n0,n1,n2,n3,n4,n5,n6,n7⟩:=ug (xV ae aH.o);clear ae hT B;go_wp2_with fail
  refine av.o.mono ?_;rintro e w5 ⟨rfl,d5⟩;rw[<-HN.o]at d5;have ap:sZ wc F gt (gf,()) ((tx0 s).setX n N) T w4 w5:=d5;have J:=za (ap.old aL.o HT.o);obtain⟨T5,t5,u5,v5,k5⟩:=ap;have aM:Hid (((tx0 s).setX n N).nodes[n]?=some N):=ul (by show n<s.nodes.length;rw[P.o];exact t);have ah:=ix E.o J.o t5 (λr hr=>zr (Q.o r hr) (zv f.o.size J.o.size)) n t N aM.o u4 b (HV.o.below (f.o.trans (J.o.mono f.o.size))) (λq hq hc=>by have c:=aO.o q hq;have l:=t5.new q hc;have:=f.o.size;omega) aB.o (by rw[HN.o];exact yh _) (λp hp=>by rw[HN.o]at hp;cases hp) (by show (256:Int)<=256/\(256:Int)<900000;omega) (by show (0:Nat)<=900;omega) (by show (0:Nat)<800;omega) (by have:=pT ((n:Int)+1) (Value.bool true) ([]:List (Int×Value));show (putZ [] _ _).length<900;simp at this;omega);have aK:=za ah;have aC:=za t5;clear t5 u5 v5 k5 ah d5;go_wp2_with fail
  refine aK.o.mono ?_;rintro e w6 ⟨rfl,d6⟩;have ay:sZ wc F gt (gf,()) (addT s n N b) T5 w5 w6:=d6;have K:=za (ay.old J.o aC.o);obtain⟨T6,t6,u6,v6,k6⟩:=ay;have ar:=za (gT E.o K.o t6 (λr hr=>zr (Q.o r hr) (zv f.o.size K.o.size)) G.o.room i _ _ G.o.dir (name,(n:Int)+1));have ax:=za t6;clear t6 u6 v6 k6 d6;obtain⟨q,Hq⟩:=zD (vA ((addT s n N b).dirD s i) (name,(n:Int)+1));rw[Hq.o]at ar;have HM:Hid (addM s i D name k m u g b=if q=0 then (if endE s ((addT s n N b).entX s i (name,n+1))=0 then ((n:Int)+1,0) else (0,endE s ((addT s n N b).entX s i (name,n+1))),endS s ((addT s n N b).entX s i (name,n+1))) else ((0,q),s)):=by show _=_;unfold addM;rw[A.o,ze rfl,x.o,aq.o,<-HN.o];show (if vA ((addT s n N b).dirD s i) (name,(n:Int)+1)=0 then _ else _)=_;rw[Hq.o]
  rw[HR.o]at HM;go_wp2_with fail
  refine ar.o.mono ?_;rintro e w7 ⟨rfl,d7⟩;by_cases hq:q=0;case neg=>
   rw[zb hq]at d7;have b0:(q==0)=false:=(by simpa using hq);have b1:(q != 0)=true:=(by simpa using hq);have d:Hid (ra=0/\rb=q/\rs=s):=(by have c:=HM.o;rw[zb hq]at c;injection c with c l;injection c with c I;exact⟨c,I,l⟩);have Y:=za (d7.old K.o ax.o);clear d7;go_wp2;go_ret2;exact⟨by rw[d.o.1,d.o.2.1];rfl,by rw[d.o.2.2];exact pW.after (pW.same E.o Y.o) f.o⟩
  subst hq;rw[ze rfl]at d7;have Y:=za (d7.old K.o ax.o);obtain⟨T7,t7,u7,v7,k7⟩:=d7;have aI:=za (kP E.o Y.o t7 (G.o.run Hq.o));clear t7 u7 v7 k7;obtain⟨z,Hz⟩:=zD (endE s ((addT s n N b).entX s i (name,(n:Int)+1)));rw[Hz.o,ze rfl]at HM;have a7:Hid (Calls prog 46 #[(gt,())] w7 (ρ z λw'=>pW wc gf (endS s ((addT s n N b).entX s i (name,n+1))) F a w')):=by show _;rw[<-Hz.o];exact aI.o
  go_wp2_with fail
  refine a7.o.mono ?_;rintro e w8 ⟨rfl,d8⟩;have aj:=za (d8.after f.o);clear d8;by_cases hz:z=0
  .subst hz;have d:Hid (ra=n+1/\rb=0/\rs=endS s ((addT s n N b).entX s i (name,n+1))):=(by have c:=HM.o;rw[ze rfl]at c;injection c with c l;injection c with c I;exact⟨c,I,l⟩);go_wp2;go_ret2;exact⟨by rw[d.o.1,d.o.2.1];rfl,by rw[d.o.2.2];exact aj.o⟩
  .have b0:(z==0)=false:=(by simpa using hz);have b1:(z != 0)=true:=(by simpa using hz);have d:Hid (ra=0/\rb=z/\rs=endS s ((addT s n N b).entX s i (name,n+1))):=(by have c:=HM.o;rw[zb hz]at c;injection c with c l;injection c with c I;exact⟨c,I,l⟩);go_wp2;go_ret2;exact⟨by rw[d.o.1,d.o.2.1];rfl,by rw[d.o.2.2];exact aj.o⟩
def updP (pf:Nat->Nat->Int) (i b:Nat) (q:Int):Nat->Nat->Int:=λi' b'=>if i'=i/\b'=b then q else pf i' b'
def vsl (i b:Nat):Prop:=i<32\/i=32/\b<16
structure TJ (pf:Nat->Nat->Int) (g:List Int) (o:Ow) (put:List (Int×List Int)) (k:Nat) (T:List Nat) (ow:Int->Option (Nat×Nat)):Prop where
 k1:k<=256
 fk:256<=o.fk/\(o.fl=false->o.fk=256)
 root:uB o.fo 0=true
 blk:∀i b,vsl i b->pf i b≠0->ow (pf i b)=some (i,b)
 nz:∀j,j<16->pf 32 j≠0
 gn:∀p∈g,p≠0->ow p=some (33,0)
 rg:∀p a,ow p=some a->37<=p/\p<(k:Int)\/256<p/\p<=o.fk
 sl:∀p i b,ow p=some (i,b)->vsl i b/\pf i b=p\/i=33/\b=0/\p∈g
 hs:∀n:Nat,n<256->(o.fo.hs 0 n=true↔(ow n).isSome=true)
 rise:rB put
 pk:∀y∈put,(ow y.1).isSome=true/\(y.1<256->uF o.fo 4 y.1.toNat=false)/\∀i b,ow y.1=some (i,b)->i∈T/\b<8\/32<=i
 pd:∀y∈put,y.2.length=64/\qC y.2
section
variable {pf : Nat->Nat->Int} {g : List Int} {o : Ow} {put : List (Int×List Int)} {k : Nat} {T : List Nat} {ow : Int->Option (Nat×Nat)}
theorem Nb (f) (S) (n):uF (hasF f S) 4 n=uF f 4 n:=by rfl
theorem W7 (f) (S) (a):uB (hasF f S) a=uB f a:=rfl
theorem TJ.lt {a:Nat×Nat} (h:TJ pf g o put k T ow) (b:ow p=some a):37<=p/\p<=o.fk:=by have:=h.rg p a b;have:=h.fk;have:=h.k1;lia
theorem TJ.fresh (h:TJ pf g o put k T ow) (S) (p) (B:∀n,n<256->(S n=true↔o.fo.hs 0 n=true/\(n:Int)≠p)) (A:p=0\/p<256/\uF o.fo 4 p.toNat=true) (C:0<=p):
 ∃q T fl fk,qz {o with fo:=hasF o.fo S} k=(q,⟨hasF o.fo T,fl,fk⟩)/\q≠0/\(∀n,n<256->(T n=true↔(o.fo.hs 0 n=true/\n≠p)\/n=q))/\ow q=none/\q≠p /\
  (37<=q/\q<k\/256<q/\q<=fk)/\o.fk<=fk/\fk<=o.fk+1/\(fl=false->fk=256/\o.fl=false)/\(q<256->uF o.fo 4 q.toNat=false):=by
 have w:=h.k1;have f:=h.fk;unfold qz;simp only;split
 .rename_i n u;let⟨y,z,b,_⟩:=o8 u;rw[Er]at b;simp[W7,h.root,Nq,vO]at b;let⟨⟨⟨b,s⟩,r⟩,t⟩:=b;have c:uF o.fo 4 n=false:=by rw[jx];simp[vO];exact⟨⟨s,r⟩,t⟩
  have d:n≠p:=by
   rintro rfl;simp_all
  have i:o.fo.hs 0 n=false:=by
   have x:=B n (by lia);have v:S n=false:=b
   grind
  refine⟨n,ins S n,o.fl,o.fk,by rw[useF,UL];rfl,by lia,λm e=>?_,?_,d,zu (by lia),by lia,by lia,λl=>⟨f.2 l,l⟩,λ_=>c⟩
  .have:=B m e;unfold ins
   grind
  .have:=h.hs n (by lia);simp_all
 .refine⟨_,S,_,_,rfl,by lia,λm e=>?_,?_,by lia,zw (by lia),by lia,by lia,by simp,λj=>by lia⟩
  .grind
  .cases j:ow (o.fk+1) with
   | none=>rfl
   | some a=>have:=h.lt j;lia
theorem TJ.ownF (h:TJ pf g o put k T ow) (p) (B:p=0\/(ow p).isSome=true):
 ∃q S fl fk,ownU o k p=(q,⟨hasF o.fo S,fl,fk⟩)/\q≠0/\(∀n,n<256->(S n=true↔(o.fo.hs 0 n=true/\n≠p)\/n=q))/\(q=p\/ow q=none/\(p=0\/p<256/\uF o.fo 4 p.toNat=true)) /\
  (37<=q/\q<k\/256<q/\q<=fk)/\o.fk<=fk/\fk<=o.fk+1/\(fl=false->fk=256/\o.fl=false)/\(q<256->uF o.fo 4 q.toNat=false):=by
 unfold ownU;split
 .rename_i c;subst c;let⟨q,T,fl,fk,b,f,r,l,z,t⟩:=h.fresh (o.fo.hs 0) 0 (λn d=>by
   have:=h.hs n d;constructor
   .intro b;refine⟨b,?_⟩;rintro f;let⟨a,e⟩:=Mp.1 (this.1 b);have:=h.lt e;lia
   lia) (zu rfl) (by lia)
  rw[mD]at b;exact⟨q,T,fl,fk,b,f,r,zw ⟨l,zu rfl⟩,t⟩
 .rename_i c;let⟨a,e⟩:=Mp.1 (B.resolve_left c);have A:=h.lt e;split
  .rename_i b;let⟨q,T,fl,fk,u,m,v,w,x,j⟩:=h.fresh (del (o.fo.hs 0) p.toNat) p (λn d=>by have:n=p↔n=p.toNat:=(by lia);simp[del,this]) (zw b) (by lia);grind
  .rename_i b;refine⟨p,o.fo.hs 0,o.fl,o.fk,by rw[mD],c,λn d=>?_,zu rfl,?_,by lia,by lia,λi=>⟨h.fk.2 i,i⟩,λy=>by grind⟩
   .have:=h.hs n d
    grind
   .have:=h.rg p a e;lia
theorem TJ.own (h:TJ pf g o put k T ow) (V:vsl i b):
 ∃q o',ownU o k (pf i b)=(q,o')/\q≠0/\37<=q/\(q<256->q<k/\uF o'.fo 4 q.toNat=false)/\q<=o'.fk/\o.fk<=o'.fk/\o'.fk<=o.fk+1/\(o'.fl=false->o.fl=false) /\
  (o'.fo.nd=o.fo.nd/\∀a,a≠0->o'.fo.hs a=o.fo.hs a)/\(∀i' b',vsl i' b'->¬(i'=i/\b'=b)->pf i' b'≠q)/\q∉g/\(q=pf i b\/∀y∈put,y.1≠q) /\
  TJ (updP pf i b q) g o' put k T (λz=>if z=q then some (i,b) else if z=pf i b then none else ow z):=by
 have s:pf i b=0\/(ow (pf i b)).isSome=true:=by
  by_cases w:pf i b=0
  .lia
  .exact zw (by rw[h.blk i b V w];rfl)
 let⟨q,S,U,v,M,A,N,d,Q,K,H,E,I⟩:=h.ownF (pf i b) s;have L:=h.fk;have J:=h.k1;have w:ow 0=none:=by
  cases x:ow 0 with
  | none=>rfl
  | some a=>have:=h.lt x;lia
 have c:=h.blk;have r:∀i' b',vsl i' b'->¬(i'=i/\b'=b)->pf i' b'≠q:=λi' b' l f t=>by
  grind
 have D:∀p,p∈g->p≠0->p≠q/\p≠pf i b:=λp s m=>by
  have e:=h.gn p s m;have u:=c i b V;have F:i≠33:=by unfold vsl at V;lia
  grind
 refine⟨q,_,M,A,by lia,λx=>⟨by lia,by rw[Nb];lia⟩,by lia,K,H,λB=>(E B).2,⟨rfl,λa P=>zb P⟩,r,λt=>(D q t A).1 rfl,?_,?_⟩
 .rcases d with d|d
  .lia
  .refine zw λy C t=>?_;have:=(h.pk y C).1
   grind
 refine⟨J,⟨by lia,λB=>(E B).1⟩,h.root,λi' b' l f=>?_,λj O=>?_,λp s m=>?_,λp a s=>?_,λp i' b' s=>?_,λn G=>?_,h.rise,λy C=>?_,h.pd⟩
 .unfold updP at f |-;grind
 .unfold updP;have:=h.nz j O;lia
 .have:=D p s m;rw[zb this.1,zb this.2];exact h.gn p s m
 .have e:=h.rg p
  grind
 .have e:=h.sl p i' b';have u:=c i b V;unfold updP
  grind
 .have e:=h.hs n G;have u:=N n G;show S n=true↔_;grind
 .have e:=h.pk y C;rw[Nb];grind
theorem TJ.put' (h:TJ pf g o put k T ow) {q:Int} (c:(ow q).isSome=true) (d:q<256->uF o.fo 4 q.toNat=false) (e:∀i b,ow q=some (i,b)->i∈T/\b<8\/32<=i) (f:D.length=64/\qC D):TJ pf g o (putZ put q D) k T ow:=
 {h with
  rise:=kE _ _ h.rise
  pk:=λy a=>by
   rcases NJ a with rfl|a
   .lia
   .exact h.pk y a
  pd:=λy a=>by
   rcases NJ a with rfl|a
   .exact f
   .exact h.pd y a}
theorem TJ.give (h:TJ pf g o put k T ow) (C:i<32) (l) (E:∀b,m<=b->pf i b≠0->pf i b∈l) (D:∀p∈l,p≠0->∃b,m<=b/\pf i b=p):
 ∃ow',TJ (λi' b'=>if i'=i/\m<=b' then 0 else pf i' b') (g++l) o put k T ow':=by
 have B:=λb=>h.blk i b (zu C);refine⟨λz=>if z≠0/\z∈l then some (33,0) else ow z,h.k1,h.fk,h.root,λi' b' w c=>?_,λj x=>?_,λp e s=>?_,λp a e=>?_,λp i' b' e=>?_,λn u=>?_,h.rise,λy d=>⟨?_,(h.pk y d).2.1,λi' b'=>?_⟩,h.pd⟩
 .have r:=h.blk i' b' w;grind
 .have:=h.nz j x;lia
 .have:=h.gn p
  grind
 .have:=h.rg p
  grind
 .have:=h.sl p i' b'
  grind
 .rw[h.hs n u]
  grind
 .have:=(h.pk y d).1
  grind
 .have:=(h.pk y d).2.2 i' b'
  grind
end
def Tx.pf (x:Tx):Nat->Nat->Int:=λi b=>if i<32 then (x.nodes.getD i zN).P.getD b 0 else if i=32 then x.fo.nd 0 b else 0
def fldR (X:Pn):Prop:=(1<=X.k/\X.k<=3/\0<=X.m/\X.m<=511/\0<=X.u/\X.u<=255/\0<=X.g/\X.g<=255/\0<=X.l/\X.l<=200)/\0<=X.s/\X.s<=512/\(X.k=2->1<=X.up/\X.up<=32)/\(X.k≠2->X.up=0)/\X.P.length=jy X.s
def SX (X:Pn):Prop:=X=zN\/fldR X
structure TI (x:Tx) (s:Fs) (T:List Nat):Prop where
 ex:∃ow,TJ x.pf x.gone x.ow x.put s.k T ow
 pp:∀i b,i<32->256<x.pf i b->(getZ x.put (x.pf i b)).isSome=true
 len:x.nodes.length=32
 fine:∀a,1<=a->a<4->Pu x.fo a
 nd:∀i,i<32->SX (x.nodes.getD i zN)
 dv:∀y∈x.dirty,y.2=.bool true
 np:∀j,j<16->getZ x.put (x.fo.nd 0 j)=none
def blk (x:Tx) (s:Fs) (i b:Nat):List Int:=uY (secT x s) (x.pf i b)
def Tx.uw (x:Tx) (i:Nat) (y:Uw):Tx:={x.wow y.ow with put:=y.put,nodes:=x.nodes.set i {x.nodes.getD i zN with P:=y.P}}
theorem rh {f g:Fo} {a:Nat} (e:g.nd a=f.nd a) (i:g.hs a=f.hs a) (h:Pu f a):Pu g a:=by
 have b:encT g a=encT f a:=by unfold encT;congr 1;funext j;unfold nu;rw[e,i]
 let⟨d,c⟩:=h;refine⟨?_,?_⟩
 .unfold badN at *;rwa[e]
 .unfold badT Vp uB at *;grind
theorem sY (l:List α) (i j) (a d):(l.set i a).getD j d=if j=i/\i<l.length then a else l.getD j d:=by
 grind
theorem LN (x:Tx) (i) (y) (a:x.nodes.length=32) (i' b):(x.uw i y).pf i' b=if i'<32 then (if i'=i then y.P.getD b 0 else x.pf i' b) else if i'=32 then y.ow.fo.nd 0 b else 0:=by
 simp only[Tx.pf,Tx.uw,Tx.wow,sY,a]
 grind
theorem Wc (x) (s) (q) (D) (z) (a:z.put=putZ x.put q D) (p) (b:0<=p):secT z s p.toNat=if p=q then D else secT x s p.toNat:=by
 unfold secT;rw[a,rp b];by_cases h:p=q
 .rw[ze h,h,NP];rfl
 .rw[zb h,qE _ h]
theorem TI.pos {x:Tx} (h:TI x s T) (f:vsl i b):x.pf i b=0\/37<=x.pf i b/\(x.pf i b<s.k\/256<x.pf i b/\x.pf i b<=x.fake):=by
 let⟨d,a⟩:=h.ex;by_cases c:x.pf i b=0
 .lia
 .have:=a.rg _ _ (a.blk i b f c);have:=a.fk;have e:x.ow.fk=x.fake:=rfl;lia
theorem TI.wr {x:Tx} {y:Uw} (h:TI (x.uw i y) s T) (N:x.nodes.length=32) (O:i<32) (S:i∈T) (U:y.P.length<=8) (Q:b<y.P.length) (R:D.length=64/\qC D):
 TI (x.uw i (wrU s.k y b D)) s T/\(∀i' b',i'<32->blk (x.uw i (wrU s.k y b D)) s i' b'=if i'=i/\b'=b then D else blk (x.uw i y) s i' b')/\((wrU s.k y b D).ow.fl=false->y.ow.fl=false) /\
  y.ow.fk<=(wrU s.k y b D).ow.fk/\(wrU s.k y b D).ow.fk<=y.ow.fk+1/\(wrU s.k y b D).put.length<=y.put.length+1/\(wrU s.k y b D).P.length=y.P.length:=by
 let⟨L,n⟩:=h.ex;have r:(x.uw i y).pf i b=y.P.getD b 0:=by rw[LN _ _ _ N,ze O,ze rfl]
 let⟨q,u,z,G,M,I,K,E,B,w,p,l,A,J,o⟩:=n.own (zu O:vsl i b);have t:(x.uw i y).ow=y.ow:=rfl;rw[r,t]at z;have e:wrU s.k y b D=⟨u,putZ y.put q D,y.P.set b q⟩:=by unfold wrU;rw[z]
 rw[e];have m:(x.uw i ⟨u,putZ y.put q D,y.P.set b q⟩).pf=updP (x.uw i y).pf i b q:=by
  funext i' b'
  rw[updP,LN _ _ _ N,LN _ _ _ N,sY];grind
 rw[<-m]at o;refine⟨⟨⟨_,o.put' (by simp) (λC=>(I C).2) (λi' b' H=>by lia) R⟩,?_,?_,?_,?_,h.dv,λj n=>?_⟩,?_,by lia,E,B,pT _ _ _,xT ..⟩
 .intro i' b' f g;rw[m]at g |-;unfold updP at g |-;show (getZ (putZ y.put q D) _).isSome=true;by_cases d:i'=i/\b'=b
  .rw[ze d,NP];rfl
  .rw[zb d]at g |-;rw[qE _ (l i' b' (zu f) d)];exact h.pp i' b' f g
 .show (x.nodes.set i _).length=32;rw[xT,N]
 .intro a c F;exact rh (congrFun p.1 a) (p.2 a (by lia)) (h.fine a c F)
 .intro j n;have c:=h.nd j n;unfold Tx.uw at c |-;simp only[sY,N]at c |-;split
  .rename_i d;rw[ze d]at c;rcases c with c|c
   .injection c with _ _ _ _ _ _ _ c;rw[c]at Q;exact yi Q (MA _)
   .exact zw (by unfold fldR at c |-;simpa using c)
  lia
 .show getZ (putZ y.put q D) (u.fo.nd 0 j)=none;have c:=l 32 j (zw ⟨rfl,n⟩) (by lia);have v:=h.np j n;rw[p.1];exact (qE D c y.put).trans v
 .intro i' b' f;unfold blk;rw[m];unfold updP uY;by_cases d:i'=i/\b'=b
  .rw[ze d,zb G,ze d,Wc (x.uw i y) s q D _ rfl q (by lia),ze rfl]
  .rw[zb d,zb d];have c:=l i' b' (zu f) d;have v:=h.pos (i:=i') (b:=b') (zu f);split
   .rfl
   .rw[Wc (x.uw i y) s q D _ rfl _ (by lia),zb c]
def TO (s:Fs):Prop:=∀p,p<s.k->p<5\/37<=p->(secE s p).length=64/\qC (secE s p)
theorem pK (n):qC (List.replicate n 0):=λx a=>by grind
theorem TI.blk_ok {x:Tx} (h:TI x s T) (l:TO s) (k:i<32) (b):(blk x s i b).length=64/\qC (blk x s i b):=by
 unfold blk uY;split
 .exact⟨xt ..,pK _⟩
 .rename_i e;have j:=(h.pos (i:=i) (b:=b) (zu k)).resolve_left e;rw[secT,rp (by lia)];cases c:getZ x.put (x.pf i b) with
  | some D=>
   let⟨g,d⟩:=h.ex;exact d.pd _ (pU c)
  | none=>
   have a:=h.pp i b k;rw[c]at a;have:¬256<x.pf i b:=λf=>(by grind);exact l _ (by lia) (by lia)
theorem Pt (c:∀b,(f b).length=64) (m):((List.range m).flatMap f).length=64*m:=by
 induction m with
 | zero=>rfl
 | succ m a=>rw[vG,vW,zl,a];grind
theorem mg (c:∀b,(f b).length=64) (m n) (d:n<64*m):((List.range m).flatMap f)[n]?=(f (n / 64))[n%64]? :=by
 induction m with
 | zero=>lia
 | succ m a=>
  rw[vG,vW];by_cases h:n<64*m
  .grind
  .rw[zx (by rw[Pt c];lia),Pt c];simp[Nm,List.flatMap_nil,yY];rw[show n / 64=m by lia,show n%64=n-64*m by lia]
theorem J7 (P:List Int) (f:Int->List Int):P.flatMap f=(List.range P.length).flatMap λb=>f (P.getD b 0):=by
 induction P with
 | nil=>rfl
 | cons p P a=>
  rw[Nm,a,yv,List.range_succ_eq_map,Nm,List.flatMap_map];rfl
theorem Zy (x) (s) (a:i<32):x.dirD s i=((List.range (x.nodes.getD i zN).P.length).flatMap (blk x s i)).take (x.nodes.getD i zN).s.toNat:=by unfold Tx.dirD sF blk Tx.pf;rw[J7];grind
theorem WQ (D) (b):(blkB D b).length=64:=by unfold blkB over;simp;lia
theorem FH (D) (b r) (a:r<64) (h:64*b+r<D.length):(blkB D b)[r]?=D[64*b+r]? :=by rw[blkB,over,xH,yJ,zV (by simp;lia),Ms a,yy]
theorem Yo (h:qC D) (b):qC (blkB D b):=by
 unfold blkB over;intro y a;rw[xH,yJ]at a;rcases yN.1 a with a|a
 .exact h y (vN (xI a))
 grind
theorem ZS (D) (m) (h:D.length<=64*m):((List.range m).flatMap (blkB D)).take D.length=D:=by
 apply wV;intro n;by_cases a:n<D.length
 .rw[Ms a,mg (WQ D) _ _ (by lia),FH D _ _ (by lia) (by lia),show 64*(n / 64)+n%64=n by lia]
 grind
structure Cap (x:Tx) (n:Nat):Prop where
 fk:256<=x.fake/\x.fake<=256+n
 g:x.gone.length<=n
 p:x.put.length<=n
 d:8*x.dirty.length<=n
def Tx.cutX (x:Tx) (i:Nat) (m:Nat) (sz:Int):Tx:=
 {x with nodes:=x.nodes.set i {x.nodes.getD i zN with P:=(x.nodes.getD i zN).P.take m++List.replicate (m-(x.nodes.getD i zN).P.length) 0,s:=sz},dirty:=putZ x.dirty (i+1) (.bool true),gone:=x.gone++((x.nodes.getD i zN).P.drop m).reverse}
theorem WE (P:List Int) (m b):(P.take m++List.replicate (m-P.length) 0).getD b 0=if m<=b then 0 else P.getD b 0:=by
 grind
theorem TG {x:Tx} (a:x.nodes.length=32) (b:i<32) (m) (sz):(x.cutX i m sz).pf=λi' b'=>if i'=i/\m<=b' then 0 else x.pf i' b':=by
 funext i' b'
 simp only[Tx.pf,Tx.cutX,sY,a];grind
theorem TI.cutX {x:Tx} (h:TI x s T) (C:i<32) (m:Nat) (sz) (D:0<=sz/\sz<=512) (F:m=jy sz) (E:x.nodes.getD i zN≠zN):TI (x.cutX i m sz) s T:=by
 let⟨B,r⟩:=h.ex;have f:=TG h.len C m sz;have u:∀b,x.pf i b=(x.nodes.getD i zN).P.getD b 0:=λb=>ze C;let⟨w,g⟩:=r.give (i:=i) (m:=m) C ((x.nodes.getD i zN).P.drop m).reverse (λb A c=>by
  rw[u]at c |-;rw[M3];have a:b<(x.nodes.getD i zN).P.length:=by
   rcases pj b (x.nodes.getD i zN).P.length with d|d
   .exact d
   .rw[zt,yW d]at c;exact yi rfl c
  refine Mq.2 ⟨b-m,?_⟩;grind) (λp e _=>by
  rw[M3]at e;let⟨n,v⟩:=Mq.1 e;rw[yy]at v;exact⟨m+n,by lia,by grind⟩)
 rw[<-f]at g;refine⟨⟨_,g⟩,λz b o a=>?_,?_,h.fine,λj r=>?_,λy q=>?_,h.np⟩
 .rw[f]at a |-;simp only at a |-;split at a
  .lia
  .rename_i t;rw[zb t];exact h.pp z b o a
 .show (x.nodes.set i _).length=32;rw[xT];exact h.len
 .have d:=h.nd j r;simp only[Tx.cutX,sY,h.len];split
  .rename_i t;obtain⟨rfl,_⟩:=t;have k:=d.resolve_left E;refine zw ⟨k.1,D.1,D.2,k.2.2.2.1,k.2.2.2.2.1,?_⟩;grind
  .exact d
 .rcases NJ q with rfl|q
  .rfl
  .exact h.dv y q
def Tx.uy (x:Tx) (i:Nat):Uw:=⟨x.ow,x.put,(x.nodes.getD i zN).P⟩
theorem QT (x:Tx) (i) (a:x.nodes.length=32) (b:i<32):x.uw i (x.uy i)=x:=by
 have:x.nodes.set i (x.nodes.getD i zN)=x.nodes:=by simp_all
 show {x with nodes:=x.nodes.set i (x.nodes.getD i zN)}=x;rw[this]
theorem G8 (x:Tx) (k i) (D) (a:x.nodes.length=32) (b:i<32):
 x.fillX k i (x.nodes.getD i zN) D=(x.cutX i ((D.length+63) / 64) D.length).uw i (o9 k D ((x.cutX i ((D.length+63) / 64) D.length).uy i) ((D.length+63) / 64)):=by
 simp only[Tx.fillX,Tx.uw,Tx.uy,Tx.cutX,Tx.wow,Tx.ow,sY,a,b,Mw,Mt,MI]
theorem TI.fills {z:Tx} (h:TI z s T) (v:i<32) (w:i∈T) (y:(z.nodes.getD i zN).P.length<=8) (x:qC D):∀j,j<=(z.nodes.getD i zN).P.length->TI (z.uw i (o9 s.k D (z.uy i) j)) s T /\
 (∀i' b',i'<32->blk (z.uw i (o9 s.k D (z.uy i) j)) s i' b'=if i'=i/\b'<j then blkB D b' else blk z s i' b')/\(o9 s.k D (z.uy i) j).P.length=(z.nodes.getD i zN).P.length /\
 z.fake<=(o9 s.k D (z.uy i) j).ow.fk/\(o9 s.k D (z.uy i) j).ow.fk<=z.fake+j/\(o9 s.k D (z.uy i) j).put.length<=z.put.length+j
 | 0,_=>by rw[o9,QT z i h.len v];exact⟨h,λi' b' _=>by lia,rfl,Mr _,by show z.fake<=_;lia,zL⟩
 | j+1,u=>by
  let⟨p,o,f,g,r,t⟩:=h.fills v w y x j (by lia);let⟨c,m,q,n,d,e,l⟩:=p.wr h.len v w (by lia) (b:=j) (by lia) (D:=blkB D j) ⟨WQ D j,Yo x j⟩;refine⟨c,λi' b' a=>(m i' b' a).trans ?_,l.trans f,uP g n,uP d (by lia),zv e (by lia)⟩;grind
theorem SZ {x z:Tx} (a:i<32) (c:(z.nodes.getD i zN).P.length=(x.nodes.getD i zN).P.length) (d:(z.nodes.getD i zN).s=(x.nodes.getD i zN).s) (e:∀b,blk z s i b=blk x s i b):z.dirD s i=x.dirD s i:=by rw[Zy _ _ a,Zy _ _ a,c,d,show blk z s i=blk x s i from funext e]
theorem fld8 (h:SX X):X.P.length<=8:=by
 rcases h with rfl|⟨_,c,b,_,_,a⟩
 .show 0<=8;lia
 .unfold jy at a;lia
theorem TI.fill {x:Tx} (h:TI x s T) (N:i<32) (Q:i∈T) (D) (R:D.length<=512/\qC D) (S:x.nodes.getD i zN≠zN) (n) (O:Cap x n):
 TI (x.fillX s.k i (x.nodes.getD i zN) D) s T/\(x.fillX s.k i (x.nodes.getD i zN) D).dirD s i=D/\(∀j,j<32->∀b,blk (x.fillX s.k i (x.nodes.getD i zN) D) s j b=if j=i then (if b<(D.length+63) / 64 then blkB D b else List.replicate 64 0) else blk x s j b)/\Cap (x.fillX s.k i (x.nodes.getD i zN) D) (n+8) /\
  ∃P,(x.fillX s.k i (x.nodes.getD i zN) D).nodes=x.nodes.set i {x.nodes.getD i zN with P:=P,s:=D.length}/\P.length=(D.length+63) / 64:=by
 have e:=h.len;rw[G8 x s.k i D e N];have v:(((D.length+63) / 64:Nat))=jy D.length:=by unfold jy;lia
 have M:=fld8 (h.nd i N);have H:D.length<=64*((D.length+63) / 64)/\(D.length+63) / 64<=8:=by omega
 generalize (D.length+63) / 64=m at *
 have f:∀y,((x.cutX i m D.length).uw i y).nodes=x.nodes.set i {x.nodes.getD i zN with P:=y.P,s:=D.length}:=λy=>by simp only[Tx.uw,Tx.cutX,sY,e,N,Mw,Mt,MI]
 have B:=h.cutX N m D.length (by lia) v S;have r:(((x.cutX i m D.length).nodes.getD i zN).P).length=m:=by unfold Tx.cutX;grind
 let⟨J,z,t,E,C,G⟩:=B.fills N Q (by lia) R.2 m (by lia);rw[r]at t;have F:=O.g;have w:=O.fk;have A:=O.p;have K:=O.d;refine⟨J,?_,λj I b=>(z j b I).trans ?_,⟨⟨uP w.1 E,uP C (by show x.fake+_<=_;lia)⟩,?_,zv G (by show x.put.length+_<=_;lia),?_⟩,_,f _,t⟩
 .rw[Zy _ _ N,f];simp only[sY,e,N,Mw,Mt];rw[t,yQ];refine Eq.trans ?_ (ZS D m H.1);rw[MH,MH,uI λb q=>(z i b N).trans (ze ⟨rfl,xy.1 q⟩)]
 .have q:blk (x.cutX i m D.length) s j b=if j=i/\m<=b then List.replicate 64 0 else blk x s j b:=by
   rw[blk,TG e N m (D.length:Int)];simp only;by_cases O:j=i/\m<=b
   .rw[ze O,ze O];rfl
   .rw[zb O,zb O];rfl
  lia
 .show (x.gone++_).length<=n+8;grind
 .have L:=pT ((i:Int)+1) (.bool true:Value) x.dirty;show 8*(putZ x.dirty _ _).length<=_;lia
@[ext] structure AN where
 k:Int
 m:Int
 u:Int
 g:Int
 s:Int
 l:Int
 up:Int
 D:List Int
def zAN : AN:=⟨0,0,0,0,0,0,0,[]⟩
def vw (x:Tx) (s:Fs) (i:Nat):AN:=⟨(x.nodes.getD i zN).k,(x.nodes.getD i zN).m,(x.nodes.getD i zN).u,(x.nodes.getD i zN).g,(x.nodes.getD i zN).s,(x.nodes.getD i zN).l,(x.nodes.getD i zN).up,x.dirD s i⟩
def upA (A:Nat->AN) (i:Nat) (a:AN):Nat->AN:=λj=>if j=i then a else A j
def TZ (x:Tx) (s:Fs):Prop:=∀i,i<32->∀b r,r<64->(x.nodes.getD i zN).s<=((64*b+r:Nat))->(blk x s i b)[r]?=some 0
structure TV (x:Tx) (s:Fs) (n:Nat) (T:List Nat) (A:Nat->AN):Prop where
 ti:TI x s T
 cap:Cap x n
 v:∀j,j<32->vw x s j=A j
 z:TZ x s
section
variable {x : Tx} {s : Fs} {n i : Nat} {A : Nat->AN} {T : List Nat}
theorem TV.at (h:TV x s n T A) (a:i<32):(x.nodes.getD i zN).k=(A i).k/\(x.nodes.getD i zN).m=(A i).m/\(x.nodes.getD i zN).u=(A i).u/\(x.nodes.getD i zN).g=(A i).g/\(x.nodes.getD i zN).s=(A i).s/\(x.nodes.getD i zN).l=(A i).l/\(x.nodes.getD i zN).up=(A i).up/\x.dirD s i=(A i).D:=by have:=h.v i a;rw[<-this];exact⟨rfl,rfl,rfl,rfl,rfl,rfl,rfl,rfl⟩
theorem TV.ne (h:TV x s n T A) (b:i<32) (c:(A i).k≠0):x.nodes.getD i zN≠zN:=λa=>c (by rw[<-(h.at b).1,a];rfl)
theorem TV.mono (h:TV x s n T A) (a:n<=m):TV x s m T A:=⟨h.ti,⟨⟨h.cap.fk.1,by have:=h.cap.fk.2;lia⟩,zv h.cap.g a,zv h.cap.p a,zv h.cap.d a⟩,h.v,h.z⟩
theorem TV.fill (h:TV x s n T A) (u:i<32) (w:i∈T) (y:(A i).k≠0) (B:D.length<=512/\qC D):TV (x.fillX s.k i (x.nodes.getD i zN) D) s (n+8) T (upA A i {A i with s:=D.length,D:=D}):=by
 let⟨q,m,l,p,P,t,_⟩:=h.ti.fill u w D B (h.ne u y) n h.cap;have c:∀j,((x.fillX s.k i (x.nodes.getD i zN) D).nodes).getD j zN=if j=i then {x.nodes.getD i zN with P:=P,s:=D.length} else x.nodes.getD j zN:=λj=>by rw[t,sY,h.ti.len];grind
 refine⟨q,p,λj d=>?_,λj d b r g e=>?_⟩
 .unfold upA;by_cases a:j=i
  .subst a;rw[ze rfl,<-h.v j u];unfold vw;grind
  .rw[zb a,<-h.v j d];unfold vw;rw[SZ d (by grind) (by grind) λb=>(l j d b).trans (zb a),c,zb a]
 .rw[l j d];rw[c]at e;split
  .rename_i a;rw[ze a]at e;split
   .unfold blkB over;have o:D.length<=((64*b+r:Nat):Int):=e;have f:((D.drop (64*b)).take 64).length<=r:=(by rw[Ni,Nk];omega);rw[xH,yJ,zx f,yy,vx,ze (by lia)]
   grind
  .rename_i a;rw[zb a]at e;exact h.z j d b r g e
theorem Ja (a:x.nodes.length=32) (c:N.P=(x.nodes.getD i zN).P):(x.setX i N).pf=x.pf:=by
 funext i' b
 simp only[Tx.pf,Tx.setX,sY,a]
 grind
theorem TV.set (h:TV x s n T A) (J:i<32) (H:N.P=(x.nodes.getD i zN).P) (I:N.s=(x.nodes.getD i zN).s) (K:SX N):TV (x.setX i N) s (n+8) T (upA A i ⟨N.k,N.m,N.u,N.g,N.s,N.l,N.up,(A i).D⟩):=by
 have w:=h.ti.len;have e:=Ja w H;have c:∀j,(x.setX i N).nodes.getD j zN=if j=i then N else x.nodes.getD j zN:=λj=>by simp only[Tx.setX,sY,w];grind
 let⟨F,q⟩:=h.ti.ex;have f:=h.cap;have G:=pT ((i:Int)+1) (.bool true:Value) x.dirty;refine⟨⟨⟨F,by rwa[e]⟩,by rw[e];exact h.ti.pp,by show (x.nodes.set i N).length=32;rw[xT,w],h.ti.fine,λj q=>?_,λy B=>?_,h.ti.np⟩,⟨⟨f.fk.1,by have:=f.fk.2;show x.fake<=_;lia⟩,zv f.g (by lia),zv f.p (by lia),(by have:=f.d;show 8*(putZ x.dirty _ _).length<=_;lia)⟩,λj q=>?_,λj q b r C o=>?_⟩
 .rw[c];split
  .exact K
  .exact h.ti.nd j q
 .rcases NJ B with rfl|B
  .rfl
  .exact h.ti.dv y B
 .have t:(x.setX i N).dirD s j=x.dirD s j:=by
   refine SZ q ?_ ?_ λb=>?_
   .grind
   .grind
   .rw[blk,e];rfl
  rw[upA,vw,c,t];by_cases a:j=i
  .subst a;rw[ze rfl,ze rfl,(h.at J).2.2.2.2.2.2.2]
  .rw[zb a,zb a,<-h.v j q];rfl
 .have E:blk (x.setX i N) s j b=blk x s j b:=by unfold blk;rw[e];rfl
  rw[E];refine h.z j q b r C ?_;grind
theorem TV.free (h:TV x s n T A) (S:i<32) (U:(A i).l=0) (V:s.held=[]):TV (x.freeX s i (x.nodes.getD i zN)) s (n+8) T (upA A i zAN):=by
 have J:=h.ti.len;have B:=h.cap;have Q:=fld8 (h.ti.nd i S);have M:x.freeX s i (x.nodes.getD i zN)={x with gone:=x.gone++nzF (x.nodes.getD i zN).P,nodes:=x.nodes.set i zN,dirty:=putZ x.dirty (i+1) (.bool true)}:=by unfold Tx.freeX;rw[zb];rw[V,(h.at S).2.2.2.2.2.1,U];simp[getZ]
 rw[M];have c:∀j,(x.nodes.set i zN).getD j zN=if j=i then zN else x.nodes.getD j zN:=λj=>by grind
 let⟨R,k⟩:=h.ti.ex;have I:∀b,x.pf i b=(x.nodes.getD i zN).P.getD b 0:=λb=>ze S;let⟨G,u⟩:=k.give (i:=i) (m:=0) S (nzF (x.nodes.getD i zN).P) (λb _ e=>by
  rw[I]at e |-;rw[nzF,Mo];grind) (λp o _=>by
  let⟨b,L⟩:=Mq.1 (Mo.1 o).1;exact⟨b,yh _,by grind⟩)
 have f:({x with gone:=x.gone++nzF (x.nodes.getD i zN).P,nodes:=x.nodes.set i zN,dirty:=putZ x.dirty (i+1) (.bool true)}).pf=λw C=>if w=i/\0<=C then 0 else x.pf w C:=by
  funext w C
  simp only[Tx.pf,c];have:zN.P.getD C 0=0:=rfl
  grind
 rw[<-f]at u;have N:=pT ((i:Int)+1) (.bool true:Value) x.dirty;refine⟨⟨⟨G,u⟩,λw b E D=>?_,by rw[xT,J],h.ti.fine,λj k=>?_,λy F=>?_,h.ti.np⟩,⟨⟨B.fk.1,by have:=B.fk.2;lia⟩,?_,zv B.p (by lia),(by have:=B.d;lia)⟩,λj k=>?_,λj k b r K q=>?_⟩
 .rw[f]at D |-;have:=h.ti.pp w b E
  grind
 .show SX ((x.nodes.set i zN).getD j zN);rw[c];split
  .exact zu rfl
  .exact h.ti.nd j k
 .rcases NJ F with rfl|F
  .rfl
  .exact h.ti.dv y F
 .have O:=B.g;show (x.gone++nzF _).length<=_;rw[zl];have:(nzF (x.nodes.getD i zN).P).length<=_:=vJ _ _;lia
 .unfold upA;by_cases a:j=i
  .subst a;rw[ze rfl];simp only[vw,Tx.dirD,c,Mt];rfl
  .rw[zb a,<-h.v j k];have t:({x with gone:=x.gone++nzF (x.nodes.getD i zN).P,nodes:=x.nodes.set i zN,dirty:=putZ x.dirty (i+1) (.bool true)}).dirD s j=x.dirD s j:=by
    refine SZ k ?_ ?_ λb=>?_
    .simp only[c,a,mY]
    .simp only[c,a,mY]
    .rw[blk,f];simp[a,false_and,mY];rfl
   unfold vw;grind
 .rw[blk,f];simp only;by_cases a:j=i
  .rw[ze ⟨a,yh _⟩];rw[uY,ze rfl,vx,ze K]
  .rw[zb (by lia)];refine h.z j k b r K ?_;grind
end
theorem Sp (y) (r:List (Int×α)) (k):getZ (y::r) k=if y.1=k then some y.2 else getZ r k:=rfl
theorem jK {α:Type} (k p):∀l:List (Int×α),getZ (delZ l k) p=if p=k then none else getZ l p
 | []=>by simp[delZ,getZ]
 | y::l=>by have a:=jK k p l;unfold delZ at a |-;rw[vT,Sp];split<;>(try rw[Sp])<;>grind
theorem qv (p):∀(g) (put),getZ (gonP put g) p=if p∈g then none else getZ put p
 | [],_=>by rfl
 | q::g,put=>by
  have a:=qv p g (delZ put q);unfold gonP at a |-;rw[ww,a,jK]
  grind
theorem ma {y:Int×List Int}:y∈gonP put g->y∈put:=by
 induction g generalizing put with
 | nil=>exact id
 | cons q g a=>exact λh=>oN (a (put:=delZ put q) h)
theorem UQ:rB put->rB (gonP put g):=by
 induction g generalizing put with
 | nil=>exact id
 | cons q g a=>exact λh=>a (put:=delZ put q) (K0 q h)
theorem GO (g) (S) (n):gonS S g n=true↔S n=true/\∀p∈g,p.toNat≠n:=by
 induction g generalizing S with
 | nil=>simp[gonS]
 | cons q g a=>
  have:=a (del S q.toNat);unfold gonS at this |-;rw[ww,this];unfold del;grind
theorem Xn (x):sa x x.gone.length={x with fo:=hasF x.fo (gonS (x.fo.hs 0) x.gone),put:=gonP x.put x.gone}:=by rw[sa,xN]
theorem OV {α:Type} (k):∀(p t:List (Int×α)),rB p->getZ (qN t p) k=(getZ p k).or (getZ t k)
 | [],t,_=>rfl
 | y::p,t,h=>by
  show getZ (qN (putZ t y.1 y.2) p) k=_;rw[OV k p (putZ t y.1 y.2) h.tail,Sp];by_cases a:y.1=k
  .rw[ze a];have:getZ p k=none:=by
    cases b:getZ p k with
    | none=>rfl
    | some v=>have:=h.head _ (pU b);lia
   rw[this,<-a,NP];rfl
  .rw[zb a,qE _ (yA a)]
section
variable {x : Tx} {s : Fs} {T : List Nat}
theorem TJ.congr {pf:Nat->Nat->Int} {o2:Ow} (h:TJ pf g o put k T ow) (d:o2.fl=o.fl/\o2.fk=o.fk) (f:o2.fo.hs=o.fo.hs) (e:∀a,1<=a->o2.fo.nd a=o.fo.nd a) (i:uB o2.fo 0=true):TJ pf g o2 put k T ow:=by
 have b:∀n,uF o2.fo 4 n=uF o.fo 4 n:=λn=>by rw[jx,jx,f];unfold uB;grind
 exact⟨h.k1,by rw[d.1,d.2];exact h.fk,i,h.blk,h.nz,h.gn,by rw[d.2];exact h.rg,h.sl,by rw[f];exact h.hs,h.rise,λy c=>by rw[b];exact h.pk y c,h.pd⟩
theorem TI.nz (h:TI x s T) (c:j<16):x.fo.nd 0 j≠0:=have⟨b,a⟩:=h.ex;a.nz j c
theorem TI.ndPos (h:TI x s T) (a:j<16):37<=x.fo.nd 0 j/\(x.fo.nd 0 j<s.k\/256<x.fo.nd 0 j/\x.fo.nd 0 j<=x.fake):=(h.pos (i:=32) (b:=j) (zw ⟨rfl,a⟩)).resolve_left (h.nz a)
theorem TI.fkFull (h:TI x s T) (c:x.full=false):x.fake=256:=have⟨b,a⟩:=h.ex;a.fk.2 c
theorem TI.ownNd (h:TI x s T) (X:j<16):TI (oh s.k x j) s T/\((oh s.k x j).full=false->x.full=false)/\(∀n,uF (oh s.k x j).fo 4 n=uF x.fo 4 n) /\
 ((oh s.k x j).fo.nd 0 j<256->uF x.fo 4 ((oh s.k x j).fo.nd 0 j).toNat=false)/\(∀j',j'≠j->(oh s.k x j).fo.nd 0 j'=x.fo.nd 0 j')/\x.fake<=(oh s.k x j).fake/\(oh s.k x j).fake<=x.fake+1 /\
 (∀a,1<=a->(oh s.k x j).fo.nd a=x.fo.nd a/\(oh s.k x j).fo.hs a=x.fo.hs a):=by
 let⟨V,E⟩:=h.ex;let⟨q,c,I,O,W,S,U,M,L,R,o,P,K,l,w⟩:=E.own (zw ⟨rfl,X⟩:vsl 32 j);have H:x.pf 32 j=x.fo.nd 0 j:=rfl;rw[H]at I;have e:oh s.k x j={x.wow c with fo:=ndF c.fo j q}:=by unfold oh;rw[I]
 rw[e];have g:∀j',(ndF c.fo j q).nd 0 j'=if j'=j then q else x.fo.nd 0 j':=λj'=>by simp only[ndF,true_and];rw[o.1];rfl
 have d:∀a,1<=a->(ndF c.fo j q).nd a=x.fo.nd a:=λa r=>by
  funext j';unfold ndF;simp only;rw[zb (by lia),o.1];rfl
 have f:∀a,1<=a->(ndF c.fo j q).hs a=x.fo.hs a:=λa r=>o.2 a (by lia);have t:({x.wow c with fo:=ndF c.fo j q}).pf=updP x.pf 32 j q:=by
  funext i b
  simp only[updP,Tx.pf,g];by_cases y:i<32
  .simp[y];grind [Tx.wow]
  .simp[y];grind
 have B:uB (ndF c.fo j q) 0=true:=by
  have:=w.nz 0 (by lia);rw[uB,g];unfold updP at this;by_cases A:0=j
  .rw[ze A];simpa using O
  .rw[zb A];simp[A,and_false,mY]at this;have u:x.fo.nd 0 0≠0:=this;simpa using u
 have G:∀n,uF (ndF c.fo j q) 4 n=uF x.fo 4 n:=λn=>by rw[jx,jx];unfold uB;rw[d 1 (by lia),d 2 (by lia),d 3 (by lia),f 1 (by lia),f 2 (by lia),f 3 (by lia)]
 have v:∀n,uF c.fo 4 n=uF x.fo 4 n:=λn=>by rw[jx,jx];unfold uB;rw[o.1,o.2 1 (by lia),o.2 2 (by lia),o.2 3 (by lia)];rfl
 have m:=w.congr (o2:=⟨ndF c.fo j q,c.fl,c.fk⟩) ⟨rfl,rfl⟩ rfl (λa r=>by rw[d a r,o.1];rfl) B;rw[<-t]at m;refine⟨⟨⟨_,m⟩,λi b y p=>?_,h.len,λa u N=>rh (d a u) (f a u) (h.fine a u N),h.nd,h.dv,λj' m=>?_⟩,R,G,λC=>?_,λj' z=>(g j').trans (zb z),M,L,λa r=>⟨d a r,f a r⟩⟩
 .rw[t]at p |-;have Q:updP x.pf 32 j q i b=x.pf i b:=zb (by omega);rw[Q]at p |-;exact h.pp i b y p
 .show getZ x.put ((ndF c.fo j q).nd 0 j')=none;rw[g];split
  .rcases l with l|l
   .rw[l,H];exact h.np j X
   .cases C:getZ x.put q with
    | none=>rfl
    | some D=>exact yi rfl (l _ (pU C))
  .exact h.np j' m
 grind
theorem TI.owns (h:TI x s T):∀j,j<=16->TI (vi s.k x j) s T/\((vi s.k x j).full=false->x.full=false)/\(∀n,uF (vi s.k x j).fo 4 n=uF x.fo 4 n) /\
 (∀j',j'<j->Nt x j'=true->(vi s.k x j).fo.nd 0 j'<256->uF x.fo 4 ((vi s.k x j).fo.nd 0 j').toNat=false)/\(∀j',j<=j'->(vi s.k x j).fo.nd 0 j'=x.fo.nd 0 j')/\x.fake<=(vi s.k x j).fake/\(vi s.k x j).fake<=x.fake+j /\
 (∀a,1<=a->(vi s.k x j).fo.nd a=x.fo.nd a/\(vi s.k x j).fo.hs a=x.fo.hs a)/\(∀j',Nt x j'=false->(vi s.k x j).fo.nd 0 j'=x.fo.nd 0 j')
 | 0,_=>⟨h,id,λ_=>rfl,λj' d=>by lia,λ_ _=>rfl,Mr _,by show x.fake<=_;lia,λ_ _=>⟨rfl,rfl⟩,λ_ _=>rfl⟩
 | j+1,F=>by
  let⟨t,u,m,p,o,r,D,i,q⟩:=h.owns j (by lia);unfold vi;split
  .rename_i f;let⟨w,B,z,C,l,y,E,v⟩:=t.ownNd (j:=j) (by lia);refine⟨w,λA=>u (B A),λn=>(z n).trans (m n),λj' d b c=>?_,λj' d=>(l j' (by lia)).trans (o j' (by lia)),uP r y,by lia,λa g=>⟨(v a g).1.trans (i a g).1,(v a g).2.trans (i a g).2⟩,λj' b=>?_⟩
   .by_cases e:j'=j
    .subst e;rw[<-m];exact C c
    .rw[l j' e]at c |-;exact p j' (by lia) b c
   .have e:j'≠j:=(by rintro rfl;rw[f]at b;cases b);exact (l j' e).trans (q j' b)
  grind
end
section
variable {x : Tx} {s : Fs} {T : List Nat}
def pk2 (x:Tx) (j:Nat):List Int:=oo (x.nodes.getD (2*j) zN)++oo (x.nodes.getD (2*j+1) zN)
theorem il (h:SX X) (l:∀p∈X.P,0<=p/\p<256):QG X=0:=by
 have e:=fld8 h;rcases h with rfl|⟨i,f,k,g,j,d⟩
 .decide
 .unfold QG tm;have c:X.P.any badP=false:=by rw[pw];intro p a;have:=l p a;unfold badP;simp;lia
  have b:mT X.P=0:=by unfold mT;rw[zb (by lia),c];rfl
  omega
theorem TI.ptIn (h:TI x s T) (l:i<32) (m:p∈(x.nodes.getD i zN).P):p=0\/37<=p/\(p<s.k\/256<p/\p<=x.fake/\(getZ x.put p).isSome=true):=by
 let⟨b,j⟩:=Mq.1 m;have e:x.pf i b=p:=(ze l).trans (by rw[zt,j];rfl);have d:=h.pos (i:=i) (b:=b) (zu l);have a:=h.pp i b l;lia
theorem TI.k256 (h:TI x s T):s.k<=256:=have⟨b,a⟩:=h.ex;a.k1
theorem TI.right (h:TI x s T) (c:x.full=false) (b:i<32):QG (x.nodes.getD i zN)=0:=
 il (h.nd i b) λp a=>by have:=h.ptIn b a;have:=h.fkFull c;have:=h.k256;lia
theorem pk2_ok (h:TI x s T) (d:x.full=false) (e:j<16):(pk2 x j).length=64/\qC (pk2 x j):=by
 have b:=h.right d (i:=2*j) (by lia);have c:=h.right d (i:=2*j+1) (by lia);unfold pk2 oo;refine⟨by rw[zl,sr b,sr c],λy a=>?_⟩;rcases yN.1 a with a|a
 .exact Wm b y a
 .exact Wm c y a
theorem TI.ndInj (h:TI x s T) (g:i<16) (k:j<16) (l:x.fo.nd 0 i=x.fo.nd 0 j):i=j:=by let⟨f,a⟩:=h.ex;have c:=a.blk 32 i (zw ⟨rfl,g⟩) (a.nz i g);have b:=a.blk 32 j (zw ⟨rfl,k⟩) (a.nz j k);have d:x.pf 32 i=x.fo.nd 0 i:=rfl;have e:x.pf 32 j=x.fo.nd 0 j:=rfl;lia
theorem TI.ndBlk (h:TI x s T) (l:i<32) (k:j<16):x.pf i b≠x.fo.nd 0 j:=λc=>by let⟨g,a⟩:=h.ex;have d:=a.blk 32 j (zw ⟨rfl,k⟩) (a.nz j k);have f:x.pf 32 j=x.fo.nd 0 j:=rfl;have e:=a.blk i b (zu l) (by rw[c];exact h.nz k);lia
theorem TI.packs (h:TI x s T) (B:x.full=false) (C:∀j,j<16->Nt x j=true->uF x.fo 4 (x.fo.nd 0 j).toNat=false) (A:TJ x.pf x.gone x.ow x.put s.k T ow):∀j,j<=16 ->
 TJ x.pf x.gone x.ow (uS x j) s.k T ow/\(∀p,(∀j',j'<j->Nt x j'=true->x.fo.nd 0 j'≠p)->getZ (uS x j) p=getZ x.put p)/\(∀j',j'<j->Nt x j'=true->getZ (uS x j) (x.fo.nd 0 j')=some (pk2 x j')) /\
 (∀y∈uS x j,y∈x.put\/∃j',j'<j/\Nt x j'=true/\y.1=x.fo.nd 0 j')
 | 0,_=>⟨A,λ_ _=>rfl,λj' d=>by lia,λy e=>zu e⟩
 | j+1,w=>by
  let⟨t,u,q,r⟩:=h.packs B C A j (by lia);unfold uS;split
  .rename_i f;have n:=A.blk 32 j (zw ⟨rfl,by lia⟩) (A.nz j (by lia));have v:x.pf 32 j=x.fo.nd 0 j:=rfl;rw[v]at n;refine⟨t.put' (by rw[n];rfl) (λ_=>C j (by lia) f) (λi b c=>by rw[n]at c;injection c with c;injection c with c;lia) (pk2_ok h B (by lia)),λp l=>?_,λj' d a=>?_,λy e=>?_⟩
   .rw[qE _ (yA (l j (by lia) f))];exact u p λj' d a=>l j' (by lia) a
   .by_cases c:j'=j
    .subst c;exact NP _ _ _
    .rw[qE _ (λz=>c (h.ndInj (by lia) (by lia) z))];exact q j' (by lia) a
   .rcases NJ e with rfl|e
    .exact zw ⟨j,by lia,f,rfl⟩
    .rcases r y e with g|⟨j',g,m,o⟩
     .exact zu g
     .exact zw ⟨j',by lia,m,o⟩
  grind
theorem TJ.gones {pf:Nat->Nat->Int} (h:TJ pf g o put k T ow):
 TJ pf [] {o with fo:=hasF o.fo (gonS (o.fo.hs 0) g)} (gonP put g) k T λz=>if z∈g then none else ow z:=by
 have s:ow 0=none:=by
  cases t:ow 0 with
  | none=>rfl
  | some a=>have:=h.lt t;lia
 refine⟨h.k1,h.fk,h.root,λi b r q=>?_,h.nz,λp e=>yi e (oK),λp a e=>?_,λp i b e=>?_,λn v=>?_,UQ h.rise,λy m=>?_,λy m=>h.pd y (ma m)⟩
 .have j:=h.blk i b r q;have f:=h.gn (pf i b);unfold vsl at r
  grind
 .have:=h.rg p a
  grind
 .have j:=h.sl p i b;lia
 .have j:=h.hs n v;show gonS (o.fo.hs 0) g n=true↔_;rw[GO,j];grind
 .have j:=h.pk y (ma m);have f:y.1∉g:=λl=>by have c:=ux (UQ (g:=g) h.rise) (m);rw[qv,ze l]at c;cases c
  simp[Nb,f,mY];exact j
end
section
variable {α : Type}
theorem Se : ∀{p t} {z:Int×α},z∈qN t p->z∈p\/z∈t
 | [],_,_,h=>zw h
 | y::r,t,z,h=>by
  rcases Se (p:=r) (t:=putZ t y.1 y.2) h with h|h
  .grind
  .rcases NJ h with h|h
   .exact zu (h▸xK)
   lia
theorem lF {l:List (Int×α)} (h:rB l):(l.map (·.1)).Nodup:=
 List.Pairwise.imp (R:=λa b=>a<b) (λ{a b} c=>by lia) (wU.2 h)
theorem I8 {l:List (Int×α)} (h:rB l) (K:List Int) (d:∀z∈l,z.1∈K):l.length<=K.length:=by
 have a:=ss (lF h) (ys:=K) λx b=>by obtain⟨z,c,rfl⟩:=yd.1 b;exact d z c
 grind
end
theorem SN (s) (b) {put:List (Int×List Int)} (h:rB put):∀j,rB (dfK s b put j)
 | 0=>h
 | j+1=>by
  unfold dfK;split
  .exact SN s b h j
  .exact kE _ _ (SN s b h j)
theorem VS (s) (b) {put:List (Int×List Int)} {z:Int×List Int}:∀j,z∈dfK s b put j->(∃i,i<j/\z=(((1+i:Nat):Int),sec b i))\/z∈put
 | 0,h=>zw h
 | j+1,h=>by
  have a:=VS s b (put:=put) (z:=z) j;unfold dfK at h;split at h
  .grind
  .rcases NJ h with h|h
   .exact zu ⟨j,by lia,h⟩
   grind
theorem nj (s) (b) {put:List (Int×List Int)} {k:Int}:∀j:Nat,(k<1\/j<k)->getZ (dfK s b put j) k=getZ put k
 | 0,_=>rfl
 | j+1,h=>by
  unfold dfK;split
  .exact nj s b j (by lia)
  .rw[qE _ (by lia)];exact nj s b j (by lia)
theorem pA (x) (s) (h:rB x.put):rB (ua x s):=by
 unfold ua dfQ;split
 .exact SN s _ h 3
 .exact kE _ _ (SN s _ h 3)
theorem GG (x) (s) {z:Int×List Int} (h:z∈ua x s):z=(4,RK x.rows.length x.rows)\/(∃i,i<3/\z=(((1+i:Nat):Int),sec (uc x.fo) i))\/z∈x.put:=by
 unfold ua dfQ at h;split at h
 .exact zw (VS s _ 3 h)
 .rcases NJ h with h|h
  .lia
  .exact zw (VS s _ 3 h)
theorem fT (x) (s) {k:Int} (h:k<1\/4<k):getZ (ua x s) k=getZ x.put k:=by
 unfold ua dfQ;split
 .exact nj s _ 3 (by lia)
 .rw[qE _ (by lia)];exact nj s _ 3 (by lia)
theorem jI {f:Fo} (h:∀a,a<4->badN f a=false):(uc f).length=192/\qC (uc f):=by
 refine⟨by rfl,λy b=>?_⟩;rcases yN.1 b with b|b
 .obtain⟨m,d,rfl⟩:=yd.1 b;have d:=xy.1 d;have c:=h (m / 16) (by lia);unfold badN at c;rw[pw]at c;have e:=c (m%16) (xy.2 (by lia));unfold gE at e;lia
 .obtain⟨m,_,rfl⟩:=yd.1 b;have:=OP (f.hs (m / 32)) (m%32);lia
theorem nY {l:List Int} (h:qC l) (n):qC (sec l n):=λy a=>h y (vN (xI a))
theorem jF {l:List (Int×Int)} (h:ZQ l=0):(RK l.length l).length=64/\qC (RK l.length l):=by
 have b:=gW h;refine⟨Rt _ _ b.1,λy a=>?_⟩;rcases yZ.1 a with rfl|a
 .lia
 .rcases yN.1 a with a|a
  .let⟨z,d,a⟩:=Np.1 a;have:=((jX l).1 b.2).1 z d;simp at a;rcases a with rfl|rfl|rfl<;>lia
  grind
theorem Qb {k m:Nat} (o:m<k):∀{l} {st},On st k->(∀x∈l,RbOk k x)->(∀x∈l,x.2.2=false->x.1≠m)->sec (runE st l).N m=sec st.N m
 | [],_,_,_,_=>rfl
 | x::l,st,h,b,d=>by
  refine (Qb o (l:=l) (h.do (b x xK)) (λy a=>b y (xj _ a)) (λy a=>d y (xj _ a))).trans ?_;have c:=b x xK;unfold doE;split
  .rw[P0 h]
  .rename_i e;rcases c with c|⟨j,f⟩
   .lia
   .rw[O9 h];exact Me h.n j o f (yA ((d x xK) (by lia)))
theorem OL {L:List Wr} {x:Rb}:∀{n},x∈Rd L n->∃j,j<n/\x=(6+j,(L[j]?.getD (0,[])).2,false)
 | 0,h=>by simp[Rd]at h
 | n+1,h=>by
  rcases yN.1 h with h|h
  .let⟨j,b,a⟩:=OL h;exact⟨j,by lia,a⟩
  grind
theorem E3 (e:64<=kd) (sq) (f:L.length<=30) (d:∀x∈L,x.2.length=64):∀x∈opsB sq L,RbOk kd x/\(x.2.2=false->5<=x.1/\x.1<37):=by
 intro x a;unfold opsB opsA at a;simp only[yN,yZ,oK,MN]at a;have b:RbOk kd barR/\(barR.2.2=false->5<=barR.1/\barR.1<37):=⟨zu rfl,λh=>by simp[barR]at h⟩;rcases a with ((rfl|rfl|rfl)|a)|rfl|rfl|rfl|rfl|rfl
 .exact b
 .exact⟨zw ⟨by lia,XX⟩,λ_=>by lia⟩
 .exact b
 .obtain⟨j,c,rfl⟩:=OL a;refine⟨zw ⟨by lia,?_⟩,λ_=>by lia⟩;grind
 .exact⟨zw ⟨by lia,XX⟩,λ_=>by lia⟩
 .exact b
 .exact⟨zw ⟨by lia,PR _ _ _⟩,λ_=>by lia⟩
 .exact⟨zw ⟨by lia,Ml _ _⟩,λ_=>by lia⟩
 .exact b
theorem Tl: qC zS:=pK 64
theorem S5 {l:List Int} (h:qC l) (i) {x:Int} (b:0<=x/\x<=255):qC (l.set i x):=λy a=>by
 rcases ta a with a|a
 .exact h y a
 .rwa[a]
theorem Yj {N:List Int} (h:qC N) (b:qC D) (n):qC (putS N n D):=λx a=>by
 rcases yN.1 a with a|a
 .exact h x (xI a)
 .rcases yN.1 a with a|a
  .exact b x a
  .exact h x (vN a)
theorem kr {sq:Int} {L:List Wr} (a:0<=sq/\sq<4294967296) (c:L.length<=30) (b:∀x∈L,x.1<256):∀k,qC (OU sq L k)
 | 0=>Na (S5 (S5 Tl 0 (by lia)) 5 (by lia)) (ip sq a.1 a.2)
 | k+1=>by
  refine S5 (kr a c b k) (6+k) ?_;grind
theorem lA {sm:Int} (a:0<=sq/\sq<4294967296) (b:0<=sm/\sm<4294967296):qC (nV sq sm):=
 Na (Na (S5 Tl 0 (by lia)) (ip sq a.1 a.2)) (ip sm b.1 b.2)
theorem Wf {k:Nat}:∀{l} {st},On st k->(∀x∈l,RbOk k x/\(x.2.2=false->qC x.2.1))->qC st.N->qC (runE st l).N
 | [],_,_,_,a=>a
 | x::l,st,h,b,a=>by
  refine Wf (l:=l) (h.do (b x xK).1) (λy c=>b y (xj _ c)) ?_;unfold doE;split
  .rwa[P0 h]
  .rename_i d;rw[O9 h];exact Yj a ((b x xK).2 (by lia)) _
theorem E1 (l:64<=kd) (m:kd<=256) (n:0<=sq/\sq<4294967295) (k:L.length<=30) (i:∀x∈L,WrOk kd x/\qC x.2):∀x∈opsC sq L,RbOk kd x/\(x.2.2=false->qC x.2.1):=by
 intro x a;have g:∀y∈L,y.1<256:=λy b=>by have:=(i y b).1.1;lia
 unfold opsC at a;split at a
 .rw[xZ]at a;subst a;exact ⟨zu rfl,λh=>by simp[barR]at h⟩
 .rcases yN.1 a with a|a
  .refine⟨(E3 l (sq+1) k (λy b=>(i y b).1.2) x a).1,λ_=>?_⟩;unfold opsB opsA at a;simp only[yN,yZ,oK,MN]at a;rcases a with ((rfl|rfl|rfl)|a)|rfl|rfl|rfl|rfl|rfl
   .exact λy b=>yi b oK
   .exact Tl
   .exact λy b=>yi b oK
   .obtain⟨j,d,rfl⟩:=OL a;grind
   .exact Tl
   .exact λy b=>yi b oK
   .exact kr (by lia) k g _
   .exact lA (by lia) (Es L)
   .exact λy b=>yi b oK
  .have e:Ob (emit L) 0=emit (jv L 0):=(by unfold Ob;rw[ry];rfl);rw[e]at a;obtain⟨y,b,rfl⟩:=yd.1 a;have d:=gX (h:=0) (by lia) (λy b=>(i y b).1) y b;exact⟨zw d,λ_=>(i _ (pN _ _ _ ((ru L 0 (by lia) y).1 b).2)).2⟩
theorem WO (w:64<=kd) (v:kd<=256) (sq) (y:L.length<=30) (u:∀x∈L,WrOk kd x) {st:Dk} (h:On st kd):
 On (runE st (opsC sq L)) kd/\(runE st (opsC sq L)).W.length<=st.W.length+70/\∀m,m<kd->(m<5\/37<=m)->sec (runE st (opsC sq L)).N m=(mw L m).getD (sec st.N m):=by
 unfold opsC;split
 .rename_i f;subst f;refine⟨h.run λx a=>?_,?_,λm c _=>?_⟩
  .simp at a;subst a;exact zu rfl
  .have:=Qg st [barR];grind
  .refine (Qb c h (λx a=>?_) (λx a=>?_)).trans rfl
   .simp at a;subst a;exact zu rfl
   .simp at a;subst a;intro k;simp[barR]at k
 .have d:=E3 w (sq+1) y λx a=>(u x a).2;have b:=h.run (l:=opsB (sq+1) L) λx a=>(d x a).1;have j:Ob (emit L) 0=emit (jv L 0):=by unfold Ob;rw[ry];rfl
  have e:=gX (h:=0) (by lia) u;rw[opsJ,PH,j];refine⟨b.run (OZ e),?_,λm c r=>?_⟩
  .have s:=Qg (runE st (opsB (sq+1) L)) (emit (jv L 0));have t:=Qg st (opsB (sq+1) L);have o:=Rs L 0 (by lia);have q:(emit (jv L 0)).length=(jv L 0).length:=yD ..;have p:(opsB (sq+1) L).length=L.length+8:=(by simp[opsB,opsA,K7]);lia
  .rw[(PG b e).1,pI v (by lia) b.n u,Sr b.n u m c,Qb c h (λx a=>(d x a).1) λx a g=>(by grind)]
theorem Xa {l:List (Int×List Int)} (h:rB l) (o:∀y∈l,0<=y.1) (m):mw (wrOf l) m=getZ l m:=by
 have n:((wrOf l).map λx=>x.1).Nodup:=by unfold wrOf;rw[vo];refine wU.2 (Mz (R:=λ(a b:Int×List Int)=>a.1<b.1) (λ{a b} f i g=>?_) h);grind
 cases c:getZ l (m:Int) with
 | some D=>
  exact kh n (x:=(m,D)) (yd.2 ⟨_,pU c,by simp⟩)
 | none=>
  rw[Q8];intro x k j;obtain⟨y,d,rfl⟩:=yd.1 k;have:=o y d;have e:=ux h (d);grind
structure SI (s:Fs) (c:Nat) (A:Nat->AN):Prop where
 tv:∀T,TV (tx0 s) s 0 T A
 rows:ZQ s.rows=0
 rise:rB s.todo
 td:s.todo.length<=30
 tk:∀y∈s.todo,(1<=y.1/\y.1<=4\/37<=y.1)/\y.1<(s.k:Int)/\y.2.length=64/\qC y.2
 k0:64<=s.k
 on:On s.dk s.k
 bn:qC s.dk.N
 held:s.held=[]
 sq:0<=s.sq/\s.sq<=c
 W:s.dk.W.length<=70*c
 cc:c<=2000
section
variable {s : Fs} {c : Nat} {A : Nat->AN}
theorem SI.k1 (h:SI s c A):s.k<=256:=(h.tv []).ti.k256
theorem SI.wrs (h:SI s c A):(wrOf s.todo).length<=30/\∀x∈wrOf s.todo,WrOk s.k x/\(x.1<5\/37<=x.1):=by refine⟨by rw[wrOf,yD];exact h.td,λx d=>?_⟩;obtain⟨y,a,rfl⟩:=yd.1 d;let⟨f,e,b,_⟩:=h.tk y a;exact⟨⟨by lia,b⟩,by lia⟩
theorem SI.pos (h:SI s c A):∀y∈s.todo,0<=y.1:=λy a=>by have:=(h.tk y a).1;lia
theorem SI.sec (h:SI s c A):TO s:=λp b d=>by
 unfold secE;cases a:getZ s.todo (p:Int) with
 | some D=>exact⟨(h.tk _ (pU a)).2.2.1,(h.tk _ (pU a)).2.2.2⟩
 | none=>exact⟨jn h.on.n b,nY h.bn p⟩
theorem SI.syncOk (h:SI s c A) (l:c<=1000):WV s:=by
 have d:=h.wrs;have k:=h.k1;refine⟨⟨λx f=>⟨(d.2 x f).2,(d.2 x f).1.1⟩,?_,d.1⟩,λy e=>?_,by have:=h.sq;lia,by have:=h.W;lia⟩
 .rw[wrOf,vo];refine wU.2 (Mz (R:=λ(a b:Int×List Int)=>a.1<b.1) (λ{a b} g j i=>?_) h.rise);have:=h.pos a g;lia
 .have:=h.pos y e;have:=(h.tk y e).2.1;lia
theorem SI.syncE (h:SI s c A) {p:Nat} (e:p<s.k) (f:p<5\/37<=p):secE (ZA s) p=secE s p:=by have a:=h.wrs;have b:=(WO h.k0 h.k1 s.sq a.1 (λx d=>(a.2 x d).1) h.on).2.2 p e f;rwa[Xa h.rise h.pos]at b
theorem Eh {x z:Tx} (h:TI x s T) (f:z.nodes=x.nodes) (g:∀i b,i<32->x.pf i b≠0->secT z s' (x.pf i b).toNat=secT x s (x.pf i b).toNat):∀j,j<32->vw z s' j=vw x s j/\∀b,blk z s' j b=blk x s j b:=λj a=>by
 have this:∀b,blk z s' j b=blk x s j b:=λb=>by
  unfold blk;have d:z.pf j b=x.pf j b:=by unfold Tx.pf;rw[ze a,ze a,f]
  rw[d];unfold uY;grind
 have c:z.dirD s' j=x.dirD s j:=by rw[Zy _ _ a,Zy _ _ a,f,show blk z s' j=blk x s j from funext this]
 refine⟨?_,this⟩;unfold vw;rw[f,c]
theorem SI.sync (h:SI s c A) (J:c<2000):SI (ZA s) (c+1) A:=by
 have e:=h.wrs;let⟨E,I,G⟩:=WO h.k0 h.k1 s.sq e.1 (λx f=>(e.2 x f).1) h.on;refine⟨λT=>?_,h.rows,List.Pairwise.nil,yh _,λy k=>yi k oK,h.k0,E,?_,h.held,?_,by have:=h.W;show (runE s.dk (opsC s.sq (wrOf s.todo))).W.length<=_;lia,J⟩
 .have d:=h.tv T;let⟨⟨C,F⟩,w,p,B,m,n,t⟩:=d.ti;have l:=Eh (z:=tx0 (ZA s)) (s':=ZA s) d.ti rfl λi b D o=>have H:=(d.ti.pos (i:=i) (b:=b) (zu D)).resolve_left o;have q:(tx0 s).fake=256:=rfl;h.syncE (by lia) (by lia)
  exact⟨⟨⟨C,F⟩,w,p,B,m,n,t⟩,d.cap,λj a=>(l j a).1.trans (d.v j a),λj a b r u g=>by rw[(l j a).2];exact d.z j a b r u g⟩
 .refine Wf h.on (E1 h.k0 h.k1 (by have:=h.sq;lia) e.1 λx f=>⟨(e.2 x f).1,?_⟩) h.bn;obtain⟨y,k,rfl⟩:=yd.1 f;exact (h.tk y k).2.2.2
 .have:=h.sq;show 0<=seqC _ _/\seqC _ _<=_;unfold seqC;lia
theorem flat8 (f:Nat->Nat->Int):∀T:List Nat,(T.flatMap λi=>(List.range 8).map (f i)).length=8*T.length
 | []=>rfl
 | a::T=>by rw[Nm,zl,flat8 f T,yD,MB,yv];lia
theorem Yd (x):((List.range 16).filter (Nt x)).length<=x.dirty.length:=by
 have i:(((List.range 16).filter (Nt x)).map λj:Nat=>if (getZ x.dirty (2*j+1)).isSome=true then 2*(j:Int)+1 else 2*j+2).Nodup:=by refine wU.2 ((List.nodup_range.filter _).imp λ{a b} k=>?_);split<;>split<;>lia
 have g:=ss i (ys:=x.dirty.map (·.1)) λz l=>by
  obtain⟨j,f,rfl⟩:=yd.1 l;have e:=(Mo.1 f).2;unfold Nt at e;rw[MK]at e;split
  .rename_i c;let⟨v,d⟩:=Mp.1 c;exact yd.2 ⟨_,pU d,rfl⟩
  .rename_i c;let⟨v,d⟩:=Mp.1 (e.resolve_left c);exact yd.2 ⟨_,pU d,rfl⟩
 grind
theorem TV.ends {x:Tx} {A':Nat->AN} (h:TV x s n T A') (hf:(vi s.k x 16).full=false):
 (∃ow,TJ (endT s.k x).pf [] ⟨(endT s.k x).fo,false,256⟩ (endT s.k x).put s.k T ow)/\(endT s.k x).nodes=x.nodes/\(endT s.k x).rows=x.rows/\(∀a,1<=a->(endT s.k x).fo.nd a=x.fo.nd a/\(endT s.k x).fo.hs a=x.fo.hs a) /\
  (∀i b,i<32->x.pf i b≠0->getZ (endT s.k x).put (x.pf i b)=getZ x.put (x.pf i b)) /\
  (∀j,j<16->Nt x j=true->getZ (endT s.k x).put ((endT s.k x).fo.nd 0 j)=some (pk2 x j)) /\
  (∀j,j<16->Nt x j=false->(endT s.k x).fo.nd 0 j=x.fo.nd 0 j/\getZ (endT s.k x).put (x.fo.nd 0 j)=none) /\
  (endT s.k x).put.length<=8*T.length+x.dirty.length:=by
 let⟨f,o2,o3,o4,o5,o6,o7,S,Q⟩:=h.ti.owns 16 zL;let⟨J,q2,q3,q4,q5⟩:=rx s.k x 16;have N:=f.fkFull hf;have g:∀j,Nt (vi s.k x 16) j=Nt x j:=λj=>by unfold Nt;rw[q2]
 have K:∀j,pk2 (vi s.k x 16) j=pk2 x j:=λj=>by unfold pk2;rw[J]
 let⟨ow,v⟩:=f.ex;have hk:=h.ti.k256;have hu:∀j,j<16->Nt (vi s.k x 16) j=true->uF (vi s.k x 16).fo 4 ((vi s.k x 16).fo.nd 0 j).toNat=false:=λj c l=>by have:=f.ndPos c;grind
 let⟨U,P,X,Y⟩:=f.packs hf hu v 16 zL;have D:=U.gones;have ho:(vi s.k x 16).ow=⟨(vi s.k x 16).fo,false,256⟩:=by unfold Tx.ow;rw[hf,N]
 rw[ho]at D;have hz:endT s.k x={vi s.k x 16 with fo:=hasF (vi s.k x 16).fo (gonS ((vi s.k x 16).fo.hs 0) (vi s.k x 16).gone),put:=gonP (uS (vi s.k x 16) 16) (vi s.k x 16).gone}:=by have:=Xn (Gg (vi s.k x 16));rw[endT,<-q4];exact this
 rw[hz];generalize vi s.k x 16=z at *
 have B:∀i b,vsl i b->z.pf i b≠0->z.pf i b∉z.gone:=λi b W C e=>by have d:=v.blk i b W C;rw[v.gn _ e C]at d;injection d with d;injection d with d;unfold vsl at W;lia
 have p:∀i b,i<32->z.pf i b=x.pf i b:=λi b m=>by unfold Tx.pf;lia
 refine⟨⟨_,D⟩,J,q5,λa w=>⟨(S a w).1,(zb (by lia)).trans (S a w).2⟩,λi b m C=>?_,λj c l=>?_,λj c l=>⟨Q j l,?_⟩,?_⟩
 .have d:=B i b (zu m) (by grind);rw[p i b m]at d;rw[qv,zb d,P _ λj c _ e=>f.ndBlk m c ((p i b m).trans e.symm),q3]
 .have d:z.fo.nd 0 j∉z.gone:=B 32 j (zw ⟨rfl,c⟩) (f.nz c);show getZ (gonP _ _) (z.fo.nd 0 j)=_;rw[qv,zb d,X j c ((g j).trans l),K]
 .rw[qv,<-Q j l,P _ λj' L A e=>?_,f.np j c,ite_self];have:=f.ndInj L c e;grind
 .have R:=I8 D.rise (T.flatMap (λi=>(List.range 8).map (z.pf i))++((List.range 16).filter (Nt x)).map (z.fo.nd 0)) λy V=>?_
  .have l:=Yd x;rw[zl,flat8,yD]at R;lia
  .have q:=ma V;rw[yN];let⟨d,_,F⟩:=U.pk y q;let⟨⟨i,b⟩,w⟩:=Mp.1 d;have t:=v.sl y.1 i b w;have E:=F i b w;rcases Y y q with O|⟨j,O,Z,h8⟩
   .have h9:∀j,j<16->y.1≠z.fo.nd 0 j:=λj c e=>(by have r:=ux v.rise (show (y.1,y.2)∈z.put from O);rw[e,f.np j c]at r;cases r);rcases t with⟨t,u⟩|t
    .rcases E with⟨E,H⟩|E
     .exact zu (Np.2 ⟨i,E,yd.2 ⟨b,xy.2 H,u⟩⟩)
     .unfold vsl at t;have o:i=32/\b<16:=(by lia);obtain⟨rfl,o⟩:=o;exact yi u.symm (h9 b o)
    .exact yi t.2.2 (λe=>(by have F:=ux D.rise (show (y.1,y.2)∈_ from V);rw[qv,ze e]at F;cases F))
   grind
end
section
variable {s : Fs} {c : Nat} {A : Nat->AN}
theorem Wx {l:List Pn} (h:X∈l):∃i,i<l.length/\l.getD i zN=X:=by obtain⟨i,a,rfl⟩:=Mu.1 h;exact⟨i,a,by grind⟩
theorem TI.mem {x:Tx} (h:TI x s T) (c:X∈x.nodes):∃i,i<32/\x.nodes.getD i zN=X:=have⟨i,b,a⟩:=Wx c;⟨i,by rw[<-h.len];exact b,a⟩
theorem fine0 {f:Fo} (c:k<=256) (h:∀j,j<16->37<=f.nd 0 j/\f.nd 0 j<k):Pu f 0:=by
 refine⟨TK λi b=>?_,?_⟩
 .have:=h i b;unfold gE;simp;lia
 .have:=h 0 (by lia);unfold badT uB;lia
theorem TV.fines {x:Tx} {A':Nat->AN} (h:TV x s n T A') (v:(vi s.k x 16).full=false):(∀a,a<4->Pu (endT s.k x).fo a)/\∀j,j<16->37<=(endT s.k x).fo.nd 0 j/\(endT s.k x).fo.nd 0 j<s.k:=by
 let⟨⟨t,c⟩,u,q,d,p⟩:=h.ends v;have e:∀j,j<16->37<=(endT s.k x).fo.nd 0 j/\(endT s.k x).fo.nd 0 j<s.k:=λj b=>by have i:=c.rg _ _ (c.blk 32 j (zw ⟨rfl,b⟩) (c.nz j b));have o:(endT s.k x).pf 32 j=(endT s.k x).fo.nd 0 j:=rfl;lia
 refine⟨λa g=>?_,e⟩;by_cases m:a=0
 .subst m;exact fine0 h.ti.k256 e
 .exact rh (d a (by lia)).1 (d a (by lia)).2 (h.ti.fine a (by lia) g)
theorem TV.run {x:Tx} {A':Nat->AN} (t:SI s c A) (u:c<=1000) (h:TV x s n T A') (w:n<=100) (v:ZQ x.rows=0):P6 s x:=by
 have m:=h.ti.k256;have k:=h.cap.fk;refine⟨λX d=>?_,λX d=>?_,h.ti.dv,by lia,λi a=>?_,by have:=t.td;lia,by have:=h.cap.p;lia,λ_ f=>?_⟩
 .obtain⟨i,a,rfl⟩:=(t.tv []).ti.mem (x:=tx0 s) d;exact fld8 ((t.tv []).ti.nd i a)
 .obtain⟨i,a,rfl⟩:=h.ti.mem d;exact fld8 (h.ti.nd i a)
 .have:=h.ti.ndPos a;lia
 .have b:=(h.ti.owns 16 zL).2.1 f;have e:=h.ti.fkFull b;refine⟨λX d=>?_,λp j=>?_,PE (h.fines f).1,v,λ_=>t.syncOk u⟩
  .obtain⟨i,a,rfl⟩:=h.ti.mem d;exact h.ti.right b a
  .let⟨o,g⟩:=h.ti.ex;by_cases l:p=0
   .lia
   .have r:=g.rg _ _ (g.gn p j l);have q:x.ow.fk=x.fake:=rfl;lia
theorem TJ.clear {pf:Nat->Nat->Int} {T':List Nat} (h:TJ pf g o put k T ow):TJ pf g o [] k T' ow:=
 {h with rise:=List.Pairwise.nil,pk:=λy a=>yi a oK,pd:=λy a=>yi a oK}
theorem SI.mono (h:SI s c A) {d:Nat} (b:c<=d) (a:d<=2000):SI s d A:={h with sq:=by have:=h.sq;lia,W:=by have:=h.W;lia,cc:=a}
theorem SI.at (h:SI s c A) (e:c<2000) (z):SI (tE z s) (c+1) A/\(tE z s).k=s.k/\(∀p,p<s.k->p<5\/37<=p->secE (tE z s) p=secE s p)/\((ua z s).length<=30->(qN (tE z s).todo (ua z s)).length<=30):=by
 unfold tE;split
 .refine⟨h.sync e,rfl,λp a b=>h.syncE a b,λd=>?_⟩;exact zv (jb _ _) (by show 0+(ua z s).length<=30;lia)
 .exact⟨h.mono (by lia) e,rfl,λ_ _ _=>rfl,λ_=>by lia⟩
theorem TV.done {x:Tx} {A':Nat->AN} (hs:SI s c A) (hc:c<2000) (h:TV x s n T A') (hr:ZQ x.rows=0) (hT:64*T.length+n<=208) (he:endE s x=0):
 SI (endS s x) (c+1) A'/\(endS s x).rows=x.rows/\(endS s x).nodes=x.nodes/\(endS s x).k=s.k/\Qy s x=true:=by
 have q:Qy s x=true:=by
  unfold endE at he;lia
 have U:(vi s.k x 16).full=false:=by
  unfold endE at he;lia
 let⟨⟨ow,o⟩,w,V,e4,Z,e6,e7,e8⟩:=h.ends U;let⟨Q,f2⟩:=h.fines U;have hE:endS s x=N9 (endT s.k x) s:=by unfold endS;lia
 rw[hE];generalize endT s.k x=z at *
 let⟨t,B,Y,t4⟩:=hs.at hc z;have J:(ua z s).length<=30:=by have C:=h.cap.d;have e:=VR s (RK z.rows.length z.rows) (dfK s (uc z.fo) z.put 3);have h2:=ni s (uc z.fo) z.put 3;unfold ua;lia
 have hk:=hs.k1;have D:ZQ z.rows=0:=by rwa[V]
 have E:∀p,37<=p->p<s.k->secE (N9 z s) p=(getZ z.put p).getD (secE s p):=λp G M=>by have e:secE (N9 z s) p=(getZ (qN (tE z s).todo (ua z s)) p).getD (sec (tE z s).dk.N p):=rfl;rw[e,OV _ _ _ (pA z s o.rise),fT _ _ (by lia),<-Y p M (zw G)];cases getZ z.put (p:Int)<;>rfl
 have I:(tx0 (N9 z s)).pf=z.pf:=rfl;refine⟨⟨λT'=>?_,D,fZ t.rise,t4 J,λy l=>?_,by show 64<=(tE z s).k;rw[B];exact hs.k0,t.on,t.bn,t.held,t.sq,t.W,t.cc⟩,V,w,B,q⟩
 .have O:TI (tx0 (N9 z s)) (N9 z s) T':=by
   refine⟨⟨ow,?_⟩,λi b m H=>?_,?_,λa e F=>Q a F,λi m=>?_,λy l=>yi l oK,λj _=>rfl⟩
   .have K:(N9 z s).k=s.k:=B;rw[K];exact o.clear
   .rw[I]at H;have C:z.pf i b≠0:=(by lia);have e:=o.rg _ _ (o.blk i b (zu m) C);lia
   .show z.nodes.length=32;rw[w];exact h.ti.len
   .show SX (z.nodes.getD i zN);rw[w];exact h.ti.nd i m
  have X:=Eh (z:=tx0 (N9 z s)) (s':=N9 z s) h.ti w λi b m C=>by have S:z.pf i b=x.pf i b:=(by unfold Tx.pf;lia);have e:=o.rg _ _ (o.blk i b (zu m) (by rwa[S]));rw[S]at e;have F:(⟨z.fo,false,256⟩:Ow).fk=256:=rfl;have R:=E (x.pf i b).toNat (by lia) (by lia);rw[rp (by lia),Z i b m C]at R;unfold secT;rw[rp (by lia)];exact R
  refine⟨O,⟨⟨by show (256:Int)<=256;lia,by show (256:Int)<=256+_;lia⟩,zL,zL,zL⟩,λj g=>(X j g).1.trans (h.v j g),λj g b r hr L=>?_⟩;rw[(X j g).2];refine h.z j g b r hr ?_;rwa[<-w]
 .show (1<=y.1/\y.1<=4\/37<=y.1)/\y.1<((tE z s).k:Int)/\_;rw[B];have ac:=hs.k0;rcases Se l with l|l
  .rcases GG z s l with rfl|⟨i,m,rfl⟩|l
   .exact⟨zu (by lia),by lia,jF D⟩
   .have G:=jI (f:=z.fo) λa P=>(Q a P).1;exact⟨zu (by lia),by lia,jn (k:=3) G.1 m,nY G.2 i⟩
   .let⟨e,_⟩:=o.pk y l;let⟨a,P⟩:=Mp.1 e;have h2:=o.rg _ _ P;have F:(⟨z.fo,false,256⟩:Ow).fk=256:=rfl;exact⟨zw (by omega),by omega,o.pd y l⟩
  .have:=t.tk y l;lia
end
def kW (a:AN):List En:=if a.k=2 then outD a.D else []
def isTo (z:Int) (e:En):Bool:=decide (e.2=z)
def cntA (A:Nat->AN) (z:Int):Nat:=((List.range 32).map λi=>(kW (A i)).countP (isTo z)).sum
theorem iF (f g:Nat->Nat) (i) (h:∀j,j≠i->g j=f j):∀n,i<n->((List.range n).map g).sum+f i=((List.range n).map f).sum+g i
 | 0,c=>by lia
 | n+1,c=>by
  rw[vG,yo,yo,Lf,Lf];simp[yB,vS,List.sum_cons,List.sum_nil];by_cases a:i=n
  .subst a;have:(List.range i).map g=(List.range i).map f:=uI λj b=>h j (by have:=xy.1 b;lia);lia
  .have:=iF f g i h n (by lia);grind
theorem Rf {A:Nat->AN} (c:i<32) (a) (z):cntA (upA A i a) z+(kW (A i)).countP (isTo z)=cntA A z+(kW a).countP (isTo z):=by have:=iF (λj=>(kW (A j)).countP (isTo z)) (λj=>(kW (upA A i a j)).countP (isTo z)) i (λj b=>by rw[upA,zb b]) 32 c;unfold cntA;rw[this];unfold upA;simp
theorem WP {A:Nat->AN} (d:i<32) (f:e∈kW (A i)):0<cntA A e.2:=by have a:=Rf (A:=A) d zAN e.2;have c:0<(kW (A i)).countP (isTo e.2):=List.countP_pos_iff.2 ⟨e,f,by unfold isTo;simp⟩;have b:kW zAN=[]:=rfl;grind
def entA (A:Nat->AN) (i:Nat) (e:En):Nat->AN:=upA A i {A i with s:=((layD (outD (A i).D++[e])).length),D:=layD (outD (A i).D++[e])}
def leaA (A:Nat->AN) (i:Nat) (name:ByteArray):Nat->AN:=upA A i {A i with s:=((layD (qu (A i).D name)).length),D:=layD (qu (A i).D name)}
def oV (A:Nat->AN) (n:Nat):Nat->AN:=upA A n (if (A n).l=1 then zAN else {A n with l:=(A n).l-1})
structure GI (A:Nat->AN) (δ:Nat->Int):Prop where
 ok:∀i,i<32->(A i).k=2->oB (A i).D=true
 ino:∀i,i<32->∀e∈kW (A i),(A (e.2-1).toNat).k≠0
 cnt:∀n,n<32->(A n).l=(cntA A ((n:Int)+1):Int)+(if n=0 then 1 else 0)+δ n
 pos:∀n,n<32->(A n).k≠0->1<=(A n).l
 zer:∀n,n<32->(A n).k=0->A n=zAN
 root:(A 0).k=2
 dir:∀n,n<32->(A n).k=2->(A n).l=1
section
variable {A : Nat->AN} {δ : Nat->Int} {i : Nat}
theorem GI.right (h:GI A δ) (b:i<32) (a:(A i).k=2):ud (kW (A i))=0:=by rw[kW,ze a];exact (su (h.ok i b a)).2.1
theorem Fd (h:ud l=0) (a:e∈l):1<=e.2/\e.2<=32:=(kK (((qO l).1 h).2.1 e a)).2
theorem GI.to (h:GI A δ) (c:i<32) (b:e∈kW (A i)):1<=e.2/\e.2<=32:=by
 by_cases a:(A i).k=2
 .exact Fd (h.right c a) b
 .unfold kW at b;grind
theorem GI.congr (h:GI A δ) {δ':Nat->Int} (b:∀n,n<32->δ' n=δ n):GI A δ':={h with cnt:=λn a=>by rw[b n a];exact h.cnt n a}
theorem OT (a:AN) (b:a.k=2) (c:ud l=0) (sz):kW {a with s:=sz,D:=layD l}=O6 l:=by rw[kW,ze (b)];exact ZB c
theorem GI.enter (h:GI A δ) (x:i<32) (w:(A i).k=2) (y:vA (A i).D e=0) (z:(A (e.2-1).toNat).k≠0):GI (entA A i e) (λn=>δ n-if n+1=e.2 then 1 else 0):=by
 have u:=mJ (h.ok i x w) y;unfold entA;generalize ((layD (outD (A i).D++[e])).length:Int)=o;have t:=OT (A i) w u o;have r:kW (A i)=outD (A i).D:=ze w;have b:∀j,(upA A i {A i with s:=o,D:=layD (outD (A i).D++[e])} j).k=(A j).k/\(upA A i {A i with s:=o,D:=layD (outD (A i).D++[e])} j).l=(A j).l:=λj=>by
  unfold upA;lia
 refine⟨λj m q=>?_,λj m f g=>?_,λn c=>?_,λn c a=>?_,λn c a=>?_,by rw[(b 0).1];exact h.root,λn c a=>?_⟩
 .unfold upA;split
  .exact iZ u
  .exact h.ok j m ((b j).1.symm.trans q)
 .rw[(b _).1];unfold upA at g;split at g
  .rw[t]at g;have:=(oC _).mem_iff.1 g;rcases yN.1 this with d|d
   .exact h.ino i x f (by rwa[r])
   grind
  .exact h.ino j m f g
 .rw[(b n).2,h.cnt n c];have d:=Rf (A:=A) x {A i with s:=o,D:=layD (outD (A i).D++[e])} ((n:Int)+1);rw[t,(oC _).countP_eq,MW,r]at d;have v:[e].countP (isTo (n+1))=if n+1=e.2 then 1 else 0:=by
   unfold isTo;by_cases p:(n:Int)+1=e.2
   .rw[ze p];simp[p]
   .rw[zb p];simp[yA p]
  lia
 .rw[(b n).1]at a;rw[(b n).2];exact h.pos n c a
 .rw[(b n).1]at a;rw[upA,zb (by lia)];exact h.zer n c a
 .rw[(b n).1]at a;rw[(b n).2];exact h.dir n c a
theorem N4 (h:ud l=0) (g:e∈l):l.Perm (e::l.filter λy=>decide (e.1≠y.1)):=by
 have a:=((qO l).1 h).2.2;clear h
 induction l with
 | nil=>cases g
 | cons y l d=>
  rw[yB,vZ]at a;rcases yZ.1 g with rfl|g
  .rw[vT,zb (by simp)];rw[uL.2 λz f=>by grind]
  .have b:e.1≠y.1:=λc=>a.1 (c▸yd.2 ⟨e,g,rfl⟩);rw[vT,ze (by lia)];exact ((d g a.2).cons y).trans (List.Perm.swap ..)
theorem PM (b:ud l=0) (p):ud (l.filter p)=0:=by rw[qO]at b |-;grind
theorem GI.leave (h:GI A δ) (z:i<32) (y:(A i).k=2) (B:e∈outD (A i).D):GI (leaA A i e.1) (λn=>δ n+if n+1=e.2 then 1 else 0):=by
 have r:kW (A i)=outD (A i).D:=ze y;have d:=h.right z y;rw[r]at d;have v:ud (qu (A i).D e.1)=0:=PM d _;unfold leaA;generalize ((layD (qu (A i).D e.1)).length:Int)=p;have u:=OT (A i) y v p;have b:∀j,(upA A i {A i with s:=p,D:=layD (qu (A i).D e.1)} j).k=(A j).k/\(upA A i {A i with s:=p,D:=layD (qu (A i).D e.1)} j).l=(A j).l:=λj=>by
  unfold upA;lia
 refine⟨λj m t=>?_,λj m f g=>?_,λn c=>?_,λn c a=>?_,λn c a=>?_,by rw[(b 0).1];exact h.root,λn c a=>?_⟩
 .unfold upA;split
  .exact iZ v
  .exact h.ok j m ((b j).1.symm.trans t)
 .rw[(b _).1];unfold upA at g;split at g
  .rw[u]at g;exact h.ino i z f (by rw[r];exact (Mo.1 ((oC _).mem_iff.1 g)).1)
  .exact h.ino j m f g
 .rw[(b n).2,h.cnt n c];have o:=Rf (A:=A) z {A i with s:=p,D:=layD (qu (A i).D e.1)} ((n:Int)+1);rw[u,(oC _).countP_eq,r,(N4 d B).countP_eq (isTo ((n:Int)+1)),List.countP_cons]at o;have w:(if isTo (n+1) e=true then 1 else 0)=if n+1=e.2 then 1 else 0:=by
   unfold isTo;by_cases q:(n:Int)+1=e.2
   .rw[ze q];simp[q]
   .rw[zb q];simp[yA q]
  rw[w]at o;unfold qu at o |-;lia
 .rw[(b n).1]at a;rw[(b n).2];exact h.pos n c a
 .rw[(b n).1]at a;rw[upA,zb (by lia)];exact h.zer n c a
 .rw[(b n).1]at a;rw[(b n).2];exact h.dir n c a
theorem GI.set (h:GI A δ) (v:i<32) (a) (s:a.k≠0) (t:kW a=kW (A i)) (u:a.k=2->a.l=1/\oB a.D=true) (w:1<=a.l) (x:i=0->a.k=2):
 GI (upA A i a) (λn=>δ n+if n=i then a.l-(A i).l else 0):=by
 have r:∀z,cntA (upA A i a) z=cntA A z:=λz=>by have:=Rf (A:=A) v a z;lia
 have o:∀j,kW (upA A i a j)=kW (A j):=λj=>by
  unfold upA;lia
 refine⟨λj c e=>?_,λj c f p=>?_,λn d=>?_,λn d b=>?_,λn d b=>?_,?_,λn d b=>?_⟩
 .unfold upA at e |-;split
  .lia
  .rename_i m;rw[zb m]at e;exact h.ok j c e
 .rw[o]at p;have q:=h.ino j c f p;unfold upA;lia
 .rw[r];have q:=h.cnt n d;unfold upA;lia
 .unfold upA at b |-;split
  .exact w
  .rename_i c;rw[zb c]at b;exact h.pos n d b
 .unfold upA at b |-;split at b
  .lia
  .rename_i c;rw[zb c];exact h.zer n d b
 .unfold upA;split
  .lia
  .exact h.root
 .unfold upA at b |-;split
  .lia
  .rename_i c;rw[zb c]at b;exact h.dir n d b
theorem GI.gone (h:GI A δ) (w:i<32) (v:i≠0) (y:(A i).l=δ i) (x:kW (A i)=[]):GI (upA A i zAN) (λn=>δ n-if n=i then (A i).l else 0):=by
 have u:∀z,cntA (upA A i zAN) z=cntA A z:=λz=>by have:=Rf (A:=A) w zAN z;rw[x]at this;have r:kW zAN=[]:=rfl;lia
 have o:cntA A (i+1)=0:=by have:=h.cnt i w;lia
 have q:∀j,kW (upA A i zAN j)=kW (A j):=λj=>by
  unfold upA;split
  .rename_i c;rw[c,x];rfl
  .rfl
 have s:zAN.k≠2:=by decide
 refine⟨λj c e=>?_,λj c f m=>?_,λn b=>?_,λn b a=>?_,λn b a=>?_,?_,λn b a=>?_⟩
 .unfold upA at e |-;split at e
  .lia
  .rename_i g;rw[zb g];exact h.ok j c e
 .rw[q]at m;have p:=h.ino j c f m;unfold upA;split
  .rename_i g;have r:=h.to c m;have t:=WP c m;grind
  .exact p
 .rw[u];have p:=h.cnt n b;unfold upA;by_cases d:n=i
  .rw[ze d,ze d];subst d;rw[zb v]at p |-;show (0:Int)=_;lia
  lia
 .unfold upA at a |-;split at a
  .exact yi rfl a
  .rename_i c;rw[zb c];exact h.pos n b a
 .unfold upA at a |-;split
  .rfl
  .rename_i c;rw[zb c]at a;exact h.zer n b a
 .rw[upA,zb (yA v)];exact h.root
 .unfold upA at a |-;split at a
  .lia
  .rename_i c;rw[zb c];exact h.dir n b a
end
