import Derived.Test.YtakfhadmokoikaaGreatDoorKA38
set_option maxHeartbeats 0
set_option linter.all false
set_option maxRecDepth 100000
namespace Go.Proofs.YtakfhadmokoikaaGreatDoor
open Go.Proofs.Tryz Go.RowKit
variable {D:List Int} {F:Nat->Prop} {T:List Nat} {a:Addr} {b gf i:Nat} {f:Nat->List Int} {s:Fs} {w w' w0:World}
theorem Kt (N:Nat->List Int) (P:List Int) (s:Int):(tc N P s).length<=s.toNat:=by unfold tc;rw[zi];omega
theorem Ti (h:FsAt w gf s F a) (aa:mf s) (i:Nat) (hi:i<32) (X:Pn) (hX:s.nodes[i]?=some X) (hk:X.k=1) (hP:ng X.P s.k) (ae:X.P.length<=8) (hs:0<=X.s/\X.s<=512)
 (p n:Nat) (hn:n<=512) (ag:0<n) (hp:p<=1000000):
 Calls prog 11 #[(gf,()),.int .i64 ((i:Int)+1),p,n] w
  (fun e w'=>∃v,e=.returned (.tuple #[v,()])/\vC w' v (rz (tc (secE s) X.P X.s) p n)/\Below w w w'):=by
 have f:=Lib.hid (gU h i hi X hX);rw[hk,zb (by omega),ze rfl]at f;obtain⟨gn,Z,cn,J,G,H,E,N,K,e1,e2,e3,e4,U,e6,Y,I⟩:=oU h i hi X hX;have i1:IntKind.i64.wrap ((i:Int)+1-1)=(i:Int):=by rw[zQ _ (by omega)];omega
 have d:=Ks (ip h aa) X.k X.m X.u X.g X.s X.l X.up (J,G,H) X.P I.now ae hP hs.1 hs.2;have b:Hid (Calls prog 40 #[.iface 87 (.agg #[(gf,())]),.agg #[X.k,X.m,X.u,X.g,X.s,X.l,X.up,(J,G,H)]] w
  (fun e w'=>∃v',e=.returned v'/\w'.ownsRow (w.heap.size+1) 5 1 v' (tc (secE s) X.P X.s).length (u8s (tc (secE s) X.P X.s))/\Below w w w')):=d
 have q:=Kt (secE s) X.P X.s;obtain⟨D,Q⟩:=zD (tc (secE s) X.P X.s);rw[Q.o]at b q ⊢;rw[hk]at b K;have B:Hid (D.length<=1000):=Lib.hid (by omega);have p1:decide ((p:Int)<0)=false:=zK (by omega);have V:decide ((n:Int)<0)=false:=zK (by omega);have R:decide ((512:Int)<(n:Int))=false:=zK (by omega);have T:¬((p:Int)<0):=by omega
 have S:¬((n:Int)<0):=by omega
 have W:¬((512:Int)<(n:Int)):=by omega
 have p7:¬(512<n):=by omega
 clear h aa hX hP hs q I d hk;go_enter func11,ntmps11;go_wp2_with fail
 refine f.o.mono ?_;rintro e C ⟨rfl,rfl⟩;go_wp2_with fail
 refine b.o.mono ?_;rintro e C ⟨L,rfl,y,r⟩;have z:=Lib.hid r;have t:=Lib.hid (Q9 L D C ⟨xT.of_owns y,lL y⟩ B.o p n hn ag hp);clear y r;go_wp2_with fail
 refine t.o.mono ?_;rintro e O ⟨M,rfl,c,j⟩;have x:=Lib.hid c;have A:Hid (Below w w O):=Below.step z.o j;clear c j;go_wp2;go_ret2;exact⟨M,rfl,x.o,A.o⟩
theorem Kw {g:Nat} {a0 a1 a2 a3 a4 a5:Value} {t:TypeId} {fr:Nat×Nat} (h:w.heap[g]?=some (.cells #[a0,a1,a2,a3,a4,a5] t fr)):
 w.cell? (g,0)=some a0/\w.cell? (g,1)=some a1/\w.cell? (g,2)=some a2/\w.cell? (g,3)=some a3/\w.cell? (g,4)=some a4/\w.cell? (g,5)=some a5:=
 have c:=fun i=>xR _ _ i _ _ _ h
 ⟨c 0,c 1,c 2,c 3,c 4,c 5⟩
def oJ (X:Pn):Value:=if X.k=0 then .tuple #[.agg #[(),(),(),(),(),()],(4:Int)] else .tuple #[.agg #[X.k,X.m,X.u,X.g,X.s,X.l],()]
theorem Yo (h:FsAt w gf s F a) (i:Nat) (hi:i<32) (X:Pn) (hX:s.nodes[i]?=some X):
 Calls prog 12 #[(gf,()),.int .i64 ((i:Int)+1)] w (fun e w'=>e=.returned (oJ X)/\Below w w w'):=by
 have c:=Lib.hid (fun W (K:Below w w W)=>gX (h.below K) i hi X hX);obtain⟨U,on,cn,yq,yn,yc,j,T,G,e1,e2,e3,e4,e5,e6,e7,R⟩:=oU h i hi X hX;have J:gf<w.heap.size:=zG j;have N:¬gf=w.heap.size:=by omega
 have O:¬U=w.heap.size:=by omega
 have i1:IntKind.i64.wrap ((i:Int)+1-1)=(i:Int):=by rw[zQ _ (by omega)];omega
 obtain⟨y,Z⟩:=zD X.k;unfold oJ;rw[Z.o]at G c ⊢;clear h hX R;by_cases q:y=0
 .subst q;rw[ze rfl];rw[show decide ((0:Int)≠0)=false from rfl]at c;go_enter func12,ntmps12;go_wp2_with fail
  refine (c.o _ (zB.alloc zL _)).mono ?_;rintro e H ⟨rfl,rfl⟩;go_wp2;have Q:=zT w (.cells #[(),(),(),(),(),()] 39);obtain⟨E,C,A,D,B,z⟩:=Kw Q;exact yS (v:=.tuple #[.agg #[(),(),(),(),(),()],(4:Int)]) (by simp[results,results12,go_sem,E,C,A,D,B,z]) rfl ⟨rfl,zB.alloc zL _⟩
 .rw[zb q];rw[show decide (y≠0)=true from yf q]at c;go_enter func12,ntmps12;go_wp2_with fail
  refine (c.o _ (zB.alloc zL _)).mono ?_;rintro e H ⟨rfl,rfl⟩;have V:Hid ((w.alloc (.cells #[(),(),(),(),(),()] 39)).heap[w.heap.size]?=some (.cells #[(),(),(),(),(),()] 39)):=zH;have n:Hid (Below w w (w.alloc (.cells #[(),(),(),(),(),()] 39))):=zB.alloc zL _;go_wp2_with fail
  refine (Sr y X.m X.u X.g X.s X.l X.up _ _).mono ?_;rintro e d ⟨rfl,f⟩;have b:=Lib.hid (we f V.o);have r:Hid (Below w w d):=Below.step n.o f;obtain⟨E,C,A,D,B,z⟩:=Kw b.o;have f0:d.frozen? (w.heap.size,0)=false:=zF b.o;have f1:d.frozen? (w.heap.size,1)=false:=zF b.o;have f2:d.frozen? (w.heap.size,2)=false:=zF b.o;have f3:d.frozen? (w.heap.size,3)=false:=zF b.o;have f4:d.frozen? (w.heap.size,4)=false:=zF b.o;have f5:d.frozen? (w.heap.size,5)=false:=zF b.o;clear f;go_wp2;have x:Below w w ((((((d.setCell (w.heap.size,0) (.int .i64 y)).setCell (w.heap.size,1) (.int .i64 X.m)).setCell (w.heap.size,2) (.int .i64 X.u)).setCell (w.heap.size,3) (.int .i64 X.g)).setCell (w.heap.size,4) (.int .i64 X.s)).setCell (w.heap.size,5) (.int .i64 X.l)):=(((((r.o.setCell (p:=⟨w.heap.size,0,none⟩) zL _).setCell (p:=⟨w.heap.size,1,none⟩) zL _).setCell (p:=⟨w.heap.size,2,none⟩) zL _).setCell (p:=⟨w.heap.size,3,none⟩) zL _).setCell (p:=⟨w.heap.size,4,none⟩) zL _).setCell (p:=⟨w.heap.size,5,none⟩) zL _;have t:((((((d.setCell (w.heap.size,0) (.int .i64 y)).setCell (w.heap.size,1) (.int .i64 X.m)).setCell (w.heap.size,2) (.int .i64 X.u)).setCell (w.heap.size,3) (.int .i64 X.g)).setCell (w.heap.size,4) (.int .i64 X.s)).setCell (w.heap.size,5) (.int .i64 X.l)).heap[w.heap.size]?=some (.cells #[y,X.m,X.u,X.g,X.s,X.l] 39):=
   zX _ _ 5 _ _ _ (zX _ _ 4 _ _ _ (zX _ _ 3 _ _ _ (zX _ _ 2 _ _ _ (zX _ _ 1 _ _ _ (zX _ _ 0 _ _ _ b.o)))))
  generalize (((((d.setCell (w.heap.size,0) (.int .i64 y)).setCell (w.heap.size,1) (.int .i64 X.m)).setCell (w.heap.size,2) (.int .i64 X.u)).setCell (w.heap.size,3) (.int .i64 X.g)).setCell (w.heap.size,4) (.int .i64 X.s)).setCell (w.heap.size,5) (.int .i64 X.l)=w3 at *
  obtain⟨I,L,Y,M,S,P⟩:=Kw t;exact yS (v:=.tuple #[.agg #[y,X.m,X.u,X.g,X.s,X.l],()]) (by simp[results,results12,go_sem,I,L,Y,M,S,P]) rfl ⟨rfl,x⟩
def tx0 (s:Fs):Tx:=⟨s.fo,s.rows,s.nodes,[],[],[],false,256⟩
structure DirS (s:Fs) (i:Nat) (X:Pn) (D:List Int):Prop where
 lt:i<32
 nd:s.nodes[i]?=some X
 k:X.k=2
 l:0<X.l
 pts:ng X.P s.k
 len:X.P.length<=8
 sz:0<=X.s/\X.s<=64*(X.P.length:Int)
 by_:tc (secE s) X.P X.s=D
 byte:ue D
 ok:sI D=true
theorem iD {P:List Int} {x:Tx} (h:ng P s.k) (b:s.k<=256):∀p∈P,PtR x s p:=fun p a=>⟨(h p a).1,by have:=(h p a).2;omega,zt (h p a).2⟩
def rY (D:List Int) (name:ByteArray):Int:=if (vz D name).2.2=0 then 5 else 0
theorem gZ {D:List Int} {n:Nat} {name:ByteArray}:∀f q k,(qb D n name f q k).2.2=0\/(qb D n name f q k).2.2=4/\(qb D n name f q k).1=0
 | 0,_,_=>zu ⟨rfl,rfl⟩
 | f+1,q,k=>by
  unfold qb;split
  .split
   .exact zt rfl
   .split
    .exact gZ f _ _
    .exact gZ f _ _
  .exact zu ⟨rfl,rfl⟩
theorem Vt {D:List Int} {name:ByteArray}:∀f q k,(qb D (D.length / 16) name f q k).2.2=0->∃m,m<D.length / 16/\(qb D (D.length / 16) name f q k).1=(rdE D m).2/\cmpB name (rdE D m).1=0
 | 0,_,_,h=>by unfold qb at h;cases h
 | f+1,q,k,h=>by
  unfold qb at h ⊢;split at h
  .rename_i c;rw[ze c];split at h
   .rename_i a;rw[ze a];exact⟨q,c,rfl,a⟩
   .rename_i a;rw[zb a];split at h
    .rename_i b;rw[ze b];exact Vt f _ _ h
    .rename_i b;rw[zb b];exact Vt f _ _ h
  .cases h
theorem Yl {n:Nat} (d:n<=32) (m:Nat) (c:m<n):m∈ino n 0:=by
 have h:((List.range 33).all fun n=>(List.range n).all fun m=>(ino n 0).contains m)=true:=by kernel_rfl
 have b:=yU.1 h n (yT.2 (by omega));have a:=yU.1 b m (yT.2 c);simpa using a
theorem WG (h:FsAt w gf s F a) (i:Nat) (X:Pn) (D:List Int) (O:DirS s i X D) (name:ByteArray) (P:ru name=true):
 Calls prog 57 #[(gf,()),.int .i64 ((i:Int)+1),.string name] w (fun e w'=>e=.returned (.tuple #[.int .i64 (vz D name).1,.int .i64 (vz D name).2.2])/\Below w w w'):=by
 have d:=Lib.hid (gV name);rw[P]at d;have m:=Lib.hid (V7 h i O.lt X O.nd);rw[O.k,zb (by omega),ze rfl]at m;have H:=Lib.hid h;have t:=Lib.hid (oh h);have x:Hid (∀(g:Nat) (T:Nat->Prop) (W:World),Below w w W->TxAt W w F g (gf,()) ⟨s.fo,s.rows,s.nodes,[],[],[],false,256⟩ T ->
  Calls prog 107 #[(g,()),.int .i64 ((i:Int)+1)] W (fun e w'=>∃v,e=.returned v/\tQ w' v D/\Below W W w')):=fun g T W C E=>by
  have:=V0 E (h.below C) i O.lt X O.nd (iD O.pts h.k1) O.len O.sz;have K:secT ⟨s.fo,s.rows,s.nodes,[],[],[],false,256⟩ s=secE s:=by funext n;rfl
  rw[K,O.by_]at this;exact this.mono fun e w' ⟨v,G,A,J⟩=>⟨v,G,⟨xT.of_owns A,lL A⟩,J⟩
 have b:Hid (∀(v:Value) (W:World),tQ W v D->Calls prog 106 #[v,.string name] W (YB (vz D name) W)):=fun v W q=>RO v D name W q O.byte O.ok;obtain⟨r,I⟩:=zD (vz D name);rw[I.o]at b ⊢;clear h O;go_enter func57,ntmps57;go_wp2_with fail
 refine (d.o _).mono ?_;rintro e w' ⟨rfl,rfl⟩;go_wp2_with fail
 refine m.o.mono ?_;rintro e w' ⟨rfl,rfl⟩;go_wp2_with fail
 refine t.o.mono ?_;rintro e B ⟨g,T,rfl,l,c⟩;have f:=Lib.hid l;have z:=Lib.hid c;clear l c;go_wp2_with fail
 refine (x.o g T B f.o z.o).mono ?_;rintro e M ⟨v,rfl,q,j⟩;have L:=Lib.hid q;have y:=Lib.hid (Below.step f.o j);clear q j;go_wp2_with fail
 refine (b.o v M L.o).mono ?_;rintro e N ⟨rfl,p⟩;have u:=Lib.hid (Below.step y.o p);clear p;go_wp2;go_ret2;exact⟨rfl,u.o⟩
theorem Xf (h:FsAt w gf s F a) (i:Nat) (X:Pn) (D:List Int) (j:DirS s i X D) (name:ByteArray) (g:ru name=true):
 Calls prog 17 #[(gf,()),.int .i64 ((i:Int)+1),.string name] w (fun e w'=>e=.returned (.tuple #[.int .i64 (vz D name).1,.int .i64 (vz D name).2.2])/\Below w w w'):=by
 have d:=Lib.hid (WG h i X D j name g);clear h j;generalize vz D name=r at *
 go_enter func17,ntmps17
 go_wp2_with fail
 refine d.o.mono ?_;rintro e f ⟨rfl,b⟩;have c:=Lib.hid b;clear b;go_wp2;go_ret2;exact⟨rfl,c.o⟩
theorem X8 (h:FsAt w gf s F a) (i:Nat) (X:Pn) (D:List Int) (hd:DirS s i X D) (name:ByteArray) (ab:ru name=true):
 Calls prog 71 #[(gf,()),.int .i64 ((i:Int)+1),.string name] w (fun e w'=>e=.returned (.int .i64 (rY D name))/\Below w w w'):=by
 have K:=Lib.hid (WG h i X D hd name ab);have C:Hid (∀W:World,Below w w W->Calls prog 41 #[(gf,()),.int .i64 ((i:Int)+1)] W (fun e w'=>e=.returned (.bool true)/\W=w')):=fun W A=>by have:=gX (h.below A) i hd.lt X hd.nd;rw[show decide (X.k≠0)=true from yf (by rw[hd.k];decide)]at this;exact this
 have u:Hid (∀W:World,Below w w W->∃p q x,W.cell? (gf,195)=some (.slice (some ⟨p,q,none⟩) 32 x)/\p<W.heap.size/\W.cell? ⟨p,q+i*8+5,none⟩=some (.int .i64 X.l)):=fun W A=>by obtain⟨p,q,x,yq,O,P,f,t,N,Y,R,Z,e4,H,_⟩:=oU (h.below A) i hd.lt X hd.nd;exact⟨p,q,x,f,t,H⟩
 have T:IntKind.i64.wrap ((i:Int)+1-1)=(i:Int):=by rw[zQ _ (by have:=hd.lt;omega)];omega
 have S:=hd.lt;have L:=hd.l;obtain⟨y,M⟩:=zD X.l;rw[M.o]at u L;have Q:decide (0<y)=true:=yf L;obtain⟨r,j⟩:=zD (vz D name);have g:Hid ((r.2.2=0/\rY D name=5/\0<r.1)\/(r.2.2=4/\rY D name=0)):=by
  show _\/_;unfold rY;rw[j.o];rcases gZ (D:=D) (n:=D.length / 16) (name:=name) 7 0 0 with c|⟨c,_⟩
  .refine zt ⟨by rw[<-j.o];exact c,by rw[ze (by rw[<-j.o];exact c)],?_⟩;obtain⟨m,b,z,_⟩:=Vt 7 0 0 c;have B:=((rZ _).1 (lr hd.ok).2.1).2.1 (rdE D m) (by unfold outD;exact zV.2 ⟨m,(Yl (by have:=(ny D).1 hd.ok;omega) m b),rfl⟩);rw[<-j.o];show 0<(vz D name).1;rw[show (vz D name).1=(rdE D m).2 from z];have:=(jo B).2.1;omega
  .have b:r.2.2=4:=(by rw[<-j.o];exact c);exact zu ⟨b,by rw[zb (by rw[b];decide)]⟩
 rw[j.o]at K;clear h hd;go_enter func71,ntmps71;go_wp2_with fail
 refine K.o.mono ?_;rintro e G ⟨rfl,v⟩;have d:=Lib.hid v;clear v;obtain⟨J,U,I⟩:=r;rcases g.o with⟨c,b,z⟩|⟨c,b⟩
 .have E:=Lib.hid b;obtain rfl:I=0:=c;have B:0<J:=z;have V:decide (0<J)=true:=yf B;clear b z g;go_wp2;go_ret;exact⟨by rw[E.o];rfl,d.o⟩
 .have E:=Lib.hid b;obtain rfl:I=4:=c;clear b g;obtain⟨p,q,x,f,t,H⟩:=u.o G d.o;go_wp2_with fail
  refine (C.o G d.o).mono ?_;rintro e w2 ⟨rfl,rfl⟩;go_wp2;go_ret;exact⟨by rw[E.o];rfl,d.o⟩
def qt (s:Fs):Option Nat:=s.nodes.findIdx? fun X=>decide (X.k=0)
def mc (s:Fs):Value:=match qt s with|some m=>.tuple #[.int .i64 ((m:Int)+1),()]|none=>.tuple #[(),(6:Int)]
theorem Ru (h:FsAt w gf s F a):
 Calls prog 72 #[(gf,())] w (fun e w'=>e=.returned (mc s)/\Below w w w'):=by
 have H:=Lib.hid h;have f:Hid (s.nodes.length=32):=h.len;obtain⟨z,D,E,i,C⟩:∃z D E,w.cell? (gf,195)=some (.slice (some ⟨z,D,none⟩) 32 E)/\z<w.heap.size:=by obtain⟨z,D,E,P,J,K,i,C,_⟩:=oU h 0 (by omega) _ (zf (by rw[h.len];omega));exact⟨z,D,E,i,C⟩
 have A:=Lib.hid i;clear h;go_enter func72,ntmps72;go_wp2;go_loopw [11] (fun O wr=>∃j:Nat,j<=32/\O=.int .i64 j/\Hid (∀q,q<j->∃X,s.nodes[q]?=some X/\X.k≠0)/\Hid (Below w w wr)) (fun O _=>32-(intOf O).toNat);case atStart=>exact⟨0,ye _,rfl,fun q n=>yb n (l6 q),zB⟩
 case round=>
  obtain⟨j,hj,rfl,x,r⟩:=hrel;by_cases d:j<32
  .have N:(j:Int)<32:=(by omega);obtain⟨X,R⟩:∃X,Hid (s.nodes[j]?=some X):=⟨_,Lib.hid (zf (by rw[f.o];exact d))⟩;obtain⟨ac,ab,aa,P,J,K,c,S,T,e1,e2,e3,e4,e5,e6,e7,_⟩:=oU (H.o.below r.o) j d X R.o;have L:=(r.o.cell (p:=⟨gf,195,none⟩) (zG A.o)).trans A.o;rw[L]at c;injection c with c;injection c with B _ W;injection B with B;injection B with B Y;subst B Y W;obtain⟨y,Q⟩:=zD X.k;rw[Q.o]at T;have V:¬z=wr.heap.size:=(by omega);by_cases M:y=0
   .subst M;have v:Hid (mc s=.tuple #[.int .i64 ((j:Int)+1),()]):=by
     show _=_;have e:qt s=some j:=by
      unfold qt;rw[xJ];refine⟨by rw[f.o];exact d,?_,fun q n=>?_⟩
      .have b:=R.o;rw[zf (by rw[f.o];exact d)]at b;injection b with b;rw[b,Q.o];rfl
      .obtain⟨Z,b,G⟩:=x.o q n;rw[zf (by rw[f.o];omega)]at b;injection b with b;rw[b];simpa using G
     unfold mc;rw[e]
    have t:Hid (Below w w (wr.alloc (.cells #[(),X.m,X.u,X.g,X.s,X.l,X.up,(P,J,K)] 59))):=r.o.alloc r.o.size _;go_wp2;go_ret2;exact⟨by rw[v.o];rfl,t.o⟩
   .have b0:(y==0)=false:=(by simpa using M);have t:Hid (Below w w (wr.alloc (.cells #[y,X.m,X.u,X.g,X.s,X.l,X.up,(P,J,K)] 59))):=r.o.alloc r.o.size _;have I:Hid (∀q,q<j+1->∃X,s.nodes[q]?=some X/\X.k≠0):=fun q n=>by
     by_cases b:q=j
     .exact⟨X,by rw[b];exact R.o,by rw[Q.o];exact M⟩
     .exact x.o q (by omega)
    go_wp2;go_roundw;case rel=>exact⟨j+1,by omega,by go_num,I,t⟩
    case measure=>simp[intOf];omega
  .obtain rfl:j=32:=(by omega);have v:Hid (mc s=.tuple #[(),(6:Int)]):=(by show _=_;have e:qt s=none:=(by unfold qt;rw[vW];intro X U;obtain⟨q,n,rfl⟩:=vn U;obtain⟨Z,b,G⟩:=x.o q (by rw[f.o]at n;exact n);rw[zf n]at b;injection b with b;rw[b];simpa using G);unfold mc;rw[e]);go_wp2;go_ret2;exact⟨by rw[v.o];rfl,r.o⟩
structure rN (s:Fs) (x:Tx):Prop where
 s8:∀X∈s.nodes,X.P.length<=8
 x8:∀X∈x.nodes,X.P.length<=8
 dv:∀y∈x.dirty,y.2=.bool true
 fk:256<=x.fake/\x.fake<900000
 nd:∀i,i<16->0<=x.fo.nd 0 i/\x.fo.nd 0 i<=x.fake
 td:s.todo.length<=1000
 pt:x.put.length<=800
 ok:jc s x=true->(vT s.k x 16).full=false->EndOk x s
def uk (w:World) (gf:Nat) (s':Fs) (F:Nat->Prop) (a:Addr) (w':World):Prop:=∃F',FsAt w' gf s' F' a/\(∀i,F' i->F i\/w.heap.size<=i)/\yK F w w'
theorem uk.after {s':Fs} (h:uk w0 gf s' F a w') (g:Below w w w0):uk w gf s' F a w':=by obtain⟨c,e,d,f⟩:=h;exact⟨c,e,fun i b=>(d i b).imp id fun h=>zr g.size h,(yK.of_below g).trans f fun i b=>zt b⟩
theorem uk.same (h:FsAt w gf s F a) (c:Below w w w'):uk w gf s F a w':=⟨F,h.below c,fun _ b=>zt b,yK.of_below c⟩
theorem mq {T:Nat->Prop} {gt:Nat} {x:Tx} (d:FsAt w0 gf s F a) (f:Below w0 w0 w) (h:TxAt w w0 F gt (gf,()) x T) (c:rN s x):
 Calls prog 38 #[(gt,())] w (fun e w'=>e=.returned (.int .i64 (endE s x))/\uk w0 gf (endS s x) F a w'):=
 Un d f h (fun _ b=>b) c.s8 c.x8 c.dv c.fk c.nd c.td c.pt c.ok
def newP (k m u g:Int) (i:Nat):Pn:=⟨k,m,u,g,0,1,if k=2 then (i:Int)+1 else 0,[]⟩
def Tx.setX (x:Tx) (i:Nat) (N:Pn):Tx:={x with nodes:=x.nodes.set i N,dirty:=putZ x.dirty ((i:Int)+1) (.bool true)}
def addT (s:Fs) (n:Nat) (N:Pn) (b:List Int):Tx:=((tx0 s).setX n N).fillX s.k n N b
def Tx.dirD (x:Tx) (s:Fs) (i:Nat):List Int:=tc (secT x s) (x.nodes.getD i zN).P (x.nodes.getD i zN).s
def Tx.entX (x:Tx) (s:Fs) (i:Nat) (e:En):Tx:=x.fillX s.k i (x.nodes.getD i zN) (layD (outD (x.dirD s i)++[e]))
def addM (s:Fs) (i:Nat) (D:List Int) (name:ByteArray) (k m u g:Int) (b:List Int):(Int×Int)×Fs:=
 if rY D name=0 then match qt s with
  | none=>((0,6),s)
  | some n=>
   let x:=addT s n (newP k m u g i) b
   let e:En:=(name,(n:Int)+1)
   if tC (x.dirD s i) e=0 then (if endE s (x.entX s i e)=0 then ((n:Int)+1,0) else (0,endE s (x.entX s i e)),endS s (x.entX s i e)) else ((0,tC (x.dirD s i) e),s)
 else ((0,rY D name),s)
structure pD (s:Fs) (i n:Nat) (N:Pn) (b:List Int) (name:ByteArray):Prop where
 room:lK (addT s n N b)
 dir:DirT (addT s n N b) s i ((addT s n N b).nodes.getD i zN) ((addT s n N b).dirD s i)
 run:tC ((addT s n N b).dirD s i) (name,(n:Int)+1)=0->rN s ((addT s n N b).entX s i (name,(n:Int)+1))
theorem Yn (h:FsAt w gf s F a) (i:Nat) (X:Pn) (D:List Int) (hd:DirS s i X D) (name:ByteArray) (aj:ru name=true) (k m u g:Int) (v:Value) (b:List Int) (hv:tQ w v b) (hb:b.length<=512) (ab:∀q,v.ownBlock=some q->q<w.heap.size)
 (ad:rY D name=0->∀n,qt s=some n->pD s i n (newP k m u g i) b name):
 Calls prog 23 #[(gf,()),.int .i64 ((i:Int)+1),.string name,.agg #[k,m,u,g,(),(),(),.slice none 0 0],v] w
  (fun e w'=>e=.returned (.tuple #[.int .i64 (addM s i D name k m u g b).1.1,.int .i64 (addM s i D name k m u g b).1.2])/\uk w gf (addM s i D name k m u g b).2 F a w'):=by
 have H:=Lib.hid h;have HV:=Lib.hid hv;have aO:=Lib.hid ab;have aB:=Lib.hid hb;have aG:=Lib.hid ad;have hi:=hd.lt;have ae:Hid (Below w w (w.alloc (.cells #[k,m,u,g,(),(),(),.slice none 0 0] 59))):=zB.alloc zL _;have ax:Hid ((w.alloc (.cells #[k,m,u,g,(),(),(),.slice none 0 0] 59)).heap[w.heap.size]?=some (.cells #[k,m,u,g,(),(),(),.slice none 0 0] 59)):=zH;have V:=Lib.hid (fun (W:World) (hW:Below w w W)=>X8 (h.below hW) i X D hd name aj);have an:=Lib.hid (fun (W:World) (hW:Below w w W)=>Ru (h.below hW));have Q:=Lib.hid h.fin;have P:Hid (s.nodes.length=32):=h.len;obtain⟨R,HR⟩:=zD (addM s i D name k m u g b);rw[HR.o];obtain⟨⟨ra,rb⟩,rs⟩:=R;obtain⟨pe,A⟩:=zD (rY D name);rw[A.o]at V;clear h hd hv ab hb ad;go_enter func23,ntmps23;go_wp2_with fail
 refine (V.o _ ae.o).mono ?_;rintro e w1 ⟨rfl,ag⟩;have L:Hid (Below w w w1):=Below.step ae.o ag;have ap:=Lib.hid (we ag ax.o);clear ag;by_cases M:pe=0;case neg=>
  have b0:(pe==0)=false:=by simpa using M
  have b1:(pe != 0)=true:=by simpa using M
  have d:Hid (ra=0/\rb=pe/\rs=s):=by have c:=HR.o;unfold addM at c;rw[A.o,zb M]at c;injection c with c l;injection c with c I;exact⟨c.symm,I.symm,l.symm⟩
  go_wp2;go_ret2;exact⟨by rw[d.o.1,d.o.2.1];rfl,by rw[d.o.2.2];exact uk.same H.o L.o⟩
 subst M;go_wp2_with fail
 refine (an.o w1 L.o).mono ?_;rintro e S ⟨O,aa⟩;have Y:Hid (Below w w S):=Below.step L.o aa;have j:=Lib.hid (we aa ap.o);clear aa;obtain⟨fm,x⟩:=zD (qt s);unfold mc at O;rw[x.o]at O;cases fm with
 | none=>
  subst O;have d:Hid (ra=0/\rb=6/\rs=s):=by have c:=HR.o;unfold addM at c;rw[A.o,ze rfl,x.o]at c;injection c with c l;injection c with c I;exact⟨c.symm,I.symm,l.symm⟩
  go_wp2;go_ret2;exact⟨by rw[d.o.1,d.o.2.1];rfl,by rw[d.o.2.2];exact uk.same H.o Y.o⟩
 | some n=>
  subst O;have t:n<32:=by have c:=x.o;unfold qt at c;rw[xJ]at c;obtain⟨l,_⟩:=c;rw[<-P.o];exact l
  have G:=Lib.hid (aG.o A.o n x.o);obtain⟨up,ac⟩:∃z:Int,Hid ((if k=2 then (i:Int)+1 else 0)=z):=⟨_,Lib.hid rfl⟩;have s0:S.cell? (w.heap.size,0)=some (.int .i64 k):=(uI j.o).1;have z5:S.frozen? (w.heap.size,5)=false:=zF j.o;have z6:S.frozen? (w.heap.size,6)=false:=zF j.o;have s5:S.cell? (w.heap.size,5)=some (.int .i64 0):=(uI j.o).2.2.2.2.2.1;have s6:S.cell? (w.heap.size,6)=some (.int .i64 0):=(uI j.o).2.2.2.2.2.2.1;have y:Hid (Below w w (S.setCell (w.heap.size,5) (.int .i64 1))):=Y.o.setCell (p:=⟨w.heap.size,5,none⟩) zL _;have C:Hid ((S.setCell (w.heap.size,5) (.int .i64 1)).heap[w.heap.size]?=some (.cells #[k,m,u,g,(),(1:Int),(),.slice none 0 0] 59)):=zX _ _ 5 _ _ _ j.o
  go_upto_if 36 with fail
  go_cut [0,1,2,4,8,13] (fun s0 s1 s2 s4 s8 aE wx=>s0=.pointer (some ⟨gf,0,none⟩)/\s1=.int .i64 ((i:Int)+1)/\s2=.string name/\s4=v/\s8=.pointer (some ⟨w.heap.size,0,none⟩)/\aE=.int .i64 ((n:Int)+1)/\Hid (wx.heap[w.heap.size]?=some (.cells #[k,m,u,g,(),(1:Int),up,.slice none 0 0] 59))/\Hid (Below w w wx))
  case first=>
   by_cases hk:k=2
   .have b0:(k==2)=true:=(by simp[hk]);have U:Hid (up=(i:Int)+1):=(by show _=_;rw[<-ac.o,ze hk]);go_wp2
    go_meet
    case rel =>refine⟨rfl,rfl,rfl,rfl,rfl,rfl,?_,y.o.setCell (p:=⟨w.heap.size,6,none⟩) zL _⟩;show _=_;rw[U.o];exact zX _ _ 6 _ _ _ C.o
   .have b0:(k==2)=false:=(by simpa using hk);have U:Hid (up=0):=(by show _=_;rw[<-ac.o,zb hk]);go_wp2
    go_meet
    case rel=>exact⟨rfl,rfl,rfl,rfl,rfl,rfl,by rw[U.o];exact C,y⟩
  case rest=>
  obtain⟨rfl,rfl,rfl,rfl,rfl,rfl,aH,f⟩:=hcut;have ar:Hid (newP k m u g i=⟨k,m,u,g,0,1,up,[]⟩):=by show _=_;unfold newP;rw[ac.o]
  obtain⟨N,HN⟩:∃N:Pn,Hid (N=⟨k,m,u,g,0,1,up,[]⟩):=⟨_,Lib.hid rfl⟩;rw[ar.o,<-HN.o]at G;clear s0 s5 s6 z5 z6 y C j Y ap L ax ae V an;have E:=Lib.hid (H.o.below f.o);have aF:=Lib.hid (oh E.o);go_wp2_with fail
  refine aF.o.mono ?_;rintro e w4 ⟨gt,T,rfl,af,hT⟩;have aL:=Lib.hid af;have B:=lI hT n t N none 0 0 (fun w' _=>by rw[HN.o];exact⟨rfl,zt ⟨rfl,_,_,rfl⟩⟩) (by show (0:Nat)<900;omega);rw[HN.o]at B;have aw:=Lib.hid B;have HT:=Lib.hid hT;obtain⟨n0,n1,n2,n3,n4,n5,n6,n7⟩:=uI (we af aH.o);clear af hT B;go_wp2_with fail
  refine aw.o.mono ?_;rintro e w5 ⟨rfl,d5⟩;rw[<-HN.o]at d5;have aq:vS wc F gt (gf,()) ((tx0 s).setX n N) T w4 w5:=d5;have J:=Lib.hid (aq.old aL.o HT.o);obtain⟨T5,t5,u5,v5,k5⟩:=aq;have aM:Hid (((tx0 s).setX n N).nodes[n]?=some N):=ta (by show n<s.nodes.length;rw[P.o];exact t);have ai:=hQ E.o J.o t5 (fun r hr=>zm (Q.o r hr) (zr f.o.size J.o.size)) n t N aM.o u4 b (HV.o.below (f.o.trans (J.o.mono f.o.size))) (fun q hq hc=>by have c:=aO.o q hq;have l:=t5.new q hc;have:=f.o.size;omega) aB.o (by rw[HN.o];exact ye _) (fun p hp=>by rw[HN.o]at hp;cases hp) (by show (256:Int)<=256/\(256:Int)<900000;omega) (by show (0:Nat)<=900;omega) (by show (0:Nat)<800;omega) (by have:=oS ((n:Int)+1) (Value.bool true) ([]:List (Int×Value));show (putZ [] _ _).length<900;simp at this;omega);have aK:=Lib.hid ai;have aC:=Lib.hid t5;clear t5 u5 v5 k5 ai d5;go_wp2_with fail
  refine aK.o.mono ?_;rintro e w6 ⟨rfl,d6⟩;have az:vS wc F gt (gf,()) (addT s n N b) T5 w5 w6:=d6;have K:=Lib.hid (az.old J.o aC.o);obtain⟨T6,t6,u6,v6,k6⟩:=az;have au:=Lib.hid (Zi E.o K.o t6 (fun r hr=>zm (Q.o r hr) (zr f.o.size K.o.size)) G.o.room i _ _ G.o.dir (name,(n:Int)+1));have ay:=Lib.hid t6;clear t6 u6 v6 k6 d6;obtain⟨q,Hq⟩:=zD (tC ((addT s n N b).dirD s i) (name,(n:Int)+1));rw[Hq.o]at au;have HM:Hid (addM s i D name k m u g b=if q=0 then (if endE s ((addT s n N b).entX s i (name,(n:Int)+1))=0 then ((n:Int)+1,0) else (0,endE s ((addT s n N b).entX s i (name,(n:Int)+1))),endS s ((addT s n N b).entX s i (name,(n:Int)+1))) else ((0,q),s)):=by show _=_;unfold addM;rw[A.o,ze rfl,x.o,ar.o,<-HN.o];show (if tC ((addT s n N b).dirD s i) (name,(n:Int)+1)=0 then _ else _)=_;rw[Hq.o]
  rw[HR.o]at HM;go_wp2_with fail
  refine au.o.mono ?_;rintro e w7 ⟨rfl,d7⟩;by_cases hq:q=0;case neg=>
   rw[zb hq]at d7;have b0:(q==0)=false:=(by simpa using hq);have b1:(q != 0)=true:=(by simpa using hq);have d:Hid (ra=0/\rb=q/\rs=s):=(by have c:=HM.o;rw[zb hq]at c;injection c with c l;injection c with c I;exact⟨c,I,l⟩);have Z:=Lib.hid (d7.old K.o ay.o);clear d7;go_wp2;go_ret2;exact⟨by rw[d.o.1,d.o.2.1];rfl,by rw[d.o.2.2];exact uk.after (uk.same E.o Z.o) f.o⟩
  subst hq;rw[ze rfl]at d7;have Z:=Lib.hid (d7.old K.o ay.o);obtain⟨T7,t7,u7,v7,k7⟩:=d7;have aI:=Lib.hid (mq E.o Z.o t7 (G.o.run Hq.o));clear t7 u7 v7 k7;obtain⟨z,Hz⟩:=zD (endE s ((addT s n N b).entX s i (name,(n:Int)+1)));rw[Hz.o,ze rfl]at HM;have a7:Hid (Calls prog 38 #[(gt,())] w7 (fun e w'=>e=.returned z/\uk wc gf (endS s ((addT s n N b).entX s i (name,(n:Int)+1))) F a w')):=by show _;rw[<-Hz.o];exact aI.o
  go_wp2_with fail
  refine a7.o.mono ?_;rintro e w8 ⟨rfl,d8⟩;have ak:=Lib.hid (d8.after f.o);clear d8;by_cases hz:z=0
  .subst hz;have d:Hid (ra=(n:Int)+1/\rb=0/\rs=endS s ((addT s n N b).entX s i (name,(n:Int)+1))):=(by have c:=HM.o;rw[ze rfl]at c;injection c with c l;injection c with c I;exact⟨c,I,l⟩);go_wp2;go_ret2;exact⟨by rw[d.o.1,d.o.2.1];rfl,by rw[d.o.2.2];exact ak.o⟩
  .have b0:(z==0)=false:=(by simpa using hz);have b1:(z != 0)=true:=(by simpa using hz);have d:Hid (ra=0/\rb=z/\rs=endS s ((addT s n N b).entX s i (name,(n:Int)+1))):=(by have c:=HM.o;rw[zb hz]at c;injection c with c l;injection c with c I;exact⟨c,I,l⟩);go_wp2;go_ret2;exact⟨by rw[d.o.1,d.o.2.1];rfl,by rw[d.o.2.2];exact ak.o⟩
def updP (pf:Nat->Nat->Int) (i b:Nat) (q:Int):Nat->Nat->Int:=fun i' b'=>if i'=i/\b'=b then q else pf i' b'
def vsl (i b:Nat):Prop:=i<32\/i=32/\b<16
structure TJ (pf:Nat->Nat->Int) (g:List Int) (o:Ow) (put:List (Int×List Int)) (k:Nat) (T:List Nat) (ow:Int->Option (Nat×Nat)):Prop where
 k1:k<=256
 fk:256<=o.fk/\(o.fl=false->o.fk=256)
 root:vN o.fo 0=true
 blk:∀i b,vsl i b->pf i b≠0->ow (pf i b)=some (i,b)
 nz:∀j,j<16->pf 32 j≠0
 gn:∀p∈g,p≠0->ow p=some (33,0)
 rg:∀p a,ow p=some a->37<=p/\p<(k:Int)\/256<p/\p<=o.fk
 sl:∀p i b,ow p=some (i,b)->vsl i b/\pf i b=p\/i=33/\b=0/\p∈g
 hs:∀n:Nat,n<256->(o.fo.hs 0 n=true↔(ow n).isSome=true)
 rise:se put
 pk:∀y∈put,(ow y.1).isSome=true/\(y.1<256->uT o.fo 4 y.1.toNat=false)/\∀i b,ow y.1=some (i,b)->i∈T/\b<8\/32<=i
 pd:∀y∈put,y.2.length=64/\ue y.2
section
variable {pf : Nat->Nat->Int} {g : List Int} {o : Ow} {put : List (Int×List Int)} {k : Nat} {T : List Nat} {ow : Int->Option (Nat×Nat)}
theorem KT (f:Fo) (S:Nat->Bool) (n:Nat):uT (hasF f S) 4 n=uT f 4 n:=by rw[lU,lU];rfl
theorem Mg (f:Fo) (S:Nat->Bool) (a:Nat):vN (hasF f S) a=vN f a:=rfl
theorem TJ.lt {p:Int} {a:Nat×Nat} (h:TJ pf g o put k T ow) (b:ow p=some a):37<=p/\p<=o.fk:=by have:=h.rg p a b;have:=h.fk;have:=h.k1;omega
theorem TJ.fresh (h:TJ pf g o put k T ow) (S:Nat->Bool) (p:Int) (B:∀n:Nat,n<256->(S n=true↔o.fo.hs 0 n=true/\(n:Int)≠p)) (A:p=0\/p<256/\uT o.fo 4 p.toNat=true) (C:0<=p):
 ∃q T fl fk,qz {o with fo:=hasF o.fo S} k=(q,⟨hasF o.fo T,fl,fk⟩)/\q≠0/\(∀n:Nat,n<256->(T n=true↔(o.fo.hs 0 n=true/\(n:Int)≠p)\/(n:Int)=q))/\ow q=none/\q≠p /\
  (37<=q/\q<(k:Int)\/256<q/\q<=fk)/\o.fk<=fk/\fk<=o.fk+1/\(fl=false->fk=256/\o.fl=false)/\(q<256->uT o.fo 4 q.toNat=false):=by
 have w:=h.k1;have f:=h.fk;unfold qz;simp only;split
 .rename_i n u;obtain⟨y,z,b,_⟩:=V4 u;rw[QG]at b;simp only[Mg,h.root,uq,uB]at b;obtain⟨⟨⟨b,s⟩,r⟩,t⟩:=b;have c:uT o.fo 4 n=false:=by rw[lU];simp only[uB];exact⟨⟨s,r⟩,t⟩
  have d:(n:Int)≠p:=by
   rintro rfl;rcases A with A|⟨_,A⟩
   .omega
   .simp[c]at A
  have i:o.fo.hs 0 n=false:=by
   have x:=B n (by omega);have v:S n=false:=b
   grind
  refine⟨n,ins S n,o.fl,o.fk,by unfold useF;rw[X2];rfl,by omega,fun m e=>?_,?_,d,zt (by omega),by omega,by omega,fun l=>⟨f.2 l,l⟩,fun _=>c⟩
  .have:=B m e;unfold ins
   grind
  .have:=h.hs n (by omega);rw[i]at this;simpa using this
 .refine⟨_,S,_,_,rfl,by omega,fun m e=>?_,?_,by omega,zu (by omega),by omega,by omega,by simp,fun j=>by omega⟩
  .have:=B m e;have:¬(m:Int)=o.fk+1:=by omega
   grind
  .cases j:ow (o.fk+1) with
   | none=>rfl
   | some a=>have:=h.lt j;omega
theorem TJ.ownF (h:TJ pf g o put k T ow) (p:Int) (B:p=0\/(ow p).isSome=true):
 ∃q S fl fk,ownU o k p=(q,⟨hasF o.fo S,fl,fk⟩)/\q≠0/\(∀n:Nat,n<256->(S n=true↔(o.fo.hs 0 n=true/\(n:Int)≠p)\/(n:Int)=q))/\(q=p\/ow q=none/\(p=0\/p<256/\uT o.fo 4 p.toNat=true)) /\
  (37<=q/\q<(k:Int)\/256<q/\q<=fk)/\o.fk<=fk/\fk<=o.fk+1/\(fl=false->fk=256/\o.fl=false)/\(q<256->uT o.fo 4 q.toNat=false):=by
 unfold ownU;split
 .rename_i c;subst c;obtain⟨q,T,fl,fk,b,f,r,l,z,t⟩:=h.fresh (o.fo.hs 0) 0 (fun n d=>by
   have:=h.hs n d;constructor
   .intro b;refine⟨b,?_⟩;rintro f;obtain⟨a,e⟩:=ve.1 (this.1 b);have:=h.lt e;omega
   .exact fun b=>b.1) (zt rfl) (by omega)
  rw[Kd]at b;exact⟨q,T,fl,fk,b,f,r,zu ⟨l,zt rfl⟩,t⟩
 .rename_i c;have s:=B.resolve_left c;obtain⟨a,e⟩:=ve.1 s;have A:=h.lt e;split
  .rename_i b;obtain⟨q,T,fl,fk,u,m,v,w,x,j⟩:=h.fresh (del (o.fo.hs 0) p.toNat) p (fun n d=>by have:(n:Int)=p↔n=p.toNat:=(by omega);unfold del;simp[this]) (zu b) (by omega);exact⟨q,T,fl,fk,u,m,v,zu ⟨w,zu b⟩,j⟩
  .rename_i b;refine⟨p,o.fo.hs 0,o.fl,o.fk,by rw[Kd],c,fun n d=>?_,zt rfl,?_,by omega,by omega,fun i=>⟨h.fk.2 i,i⟩,fun y=>by grind⟩
   .have:=h.hs n d
    grind
   .have:=h.rg p a e;omega
theorem TJ.own (h:TJ pf g o put k T ow) (V:vsl i b):
 ∃q o',ownU o k (pf i b)=(q,o')/\q≠0/\37<=q/\(q<256->q<(k:Int)/\uT o'.fo 4 q.toNat=false)/\q<=o'.fk/\o.fk<=o'.fk/\o'.fk<=o.fk+1/\(o'.fl=false->o.fl=false) /\
  (o'.fo.nd=o.fo.nd/\∀a,a≠0->o'.fo.hs a=o.fo.hs a)/\(∀i' b',vsl i' b'->¬(i'=i/\b'=b)->pf i' b'≠q)/\q∉g/\(q=pf i b\/∀y∈put,y.1≠q) /\
  TJ (updP pf i b q) g o' put k T (fun z=>if z=q then some (i,b) else if z=pf i b then none else ow z):=by
 have s:pf i b=0\/(ow (pf i b)).isSome=true:=by
  by_cases w:pf i b=0
  .exact zt w
  .exact zu (by rw[h.blk i b V w];rfl)
 obtain⟨q,S,U,v,M,A,N,d,Q,K,H,E,I⟩:=h.ownF (pf i b) s;have L:=h.fk;have J:=h.k1;have w:ow 0=none:=by
  cases x:ow 0 with
  | none=>rfl
  | some a=>have:=h.lt x;omega
 have c:=h.blk;have r:∀i' b',vsl i' b'->¬(i'=i/\b'=b)->pf i' b'≠q:=fun i' b' l f t=>by
  have e:=c i' b' l;rcases d with d|d
  .have u:=c i b V
   grind
  .grind
 have D:∀p,p∈g->p≠0->p≠q/\p≠pf i b:=fun p s m=>by
  have e:=h.gn p s m;have u:=c i b V;have F:i≠33:=by unfold vsl at V;omega
  grind
 refine⟨q,_,M,A,by omega,fun x=>⟨by omega,by rw[KT];exact I x⟩,by show q<=v;omega,K,H,fun B=>(E B).2,⟨rfl,fun a P=>zb P⟩,r,fun t=>(D q t A).1 rfl,?_,?_⟩
 .rcases d with d|d
  .exact zt d
  .refine zu fun y C t=>?_;have:=(h.pk y C).1
   grind
 refine⟨J,⟨by show 256<=v;omega,fun B=>(E B).1⟩,h.root,fun i' b' l f=>?_,fun j O=>?_,fun p s m=>?_,fun p a s=>?_,fun p i' b' s=>?_,fun n G=>?_,h.rise,fun y C=>?_,h.pd⟩
 .unfold updP at f ⊢;by_cases t:i'=i/\b'=b
  .simp[t]
  .simp only[t,ua]at f ⊢;have e:=r i' b' l t;have u:=c i' b' l f;have F:=c i b V;rw[zb e]
   grind
 .unfold updP;have:=h.nz j O;split
  .exact A
  .exact this
 .have:=D p s m;show (if p=q then _ else _)=_;rw[zb this.1,zb this.2];exact h.gn p s m
 .show _\/256<p/\p<=v;have e:=h.rg p
  grind
 .have e:=h.sl p i' b';have u:=c i b V;unfold updP
  grind
 .have e:=h.hs n G;have u:=N n G;show S n=true↔_;rw[u,e]
  grind
 .have e:=h.pk y C;rw[KT];have u:=fun a=>h.lt (p:=y.1) (a:=a);have F:=c i b V;refine⟨?_,e.2.1,fun i' b'=>?_⟩
  .rcases d with d|⟨_,d|d⟩<;>grind
  .have R:=e.2.2 i' b';rcases d with d|⟨_,d|d⟩<;>grind
theorem TJ.put' (h:TJ pf g o put k T ow) {q:Int} (c:(ow q).isSome=true) (d:q<256->uT o.fo 4 q.toNat=false) (e:∀i b,ow q=some (i,b)->i∈T/\b<8\/32<=i) (f:D.length=64/\ue D):TJ pf g o (putZ put q D) k T ow:=
 {h with
  rise:=Zk _ _ h.rise
  pk:=fun y a=>by
   rcases ms a with rfl|a
   .exact⟨c,d,e⟩
   .exact h.pk y a
  pd:=fun y a=>by
   rcases ms a with rfl|a
   .exact f
   .exact h.pd y a}
theorem TJ.give (h:TJ pf g o put k T ow) {m:Nat} (C:i<32) (l:List Int) (E:∀b,m<=b->pf i b≠0->pf i b∈l) (D:∀p∈l,p≠0->∃b,m<=b/\pf i b=p):
 ∃ow',TJ (fun i' b'=>if i'=i/\m<=b' then 0 else pf i' b') (g++l) o put k T ow':=by
 have B:=fun b=>h.blk i b (zt C);refine⟨fun z=>if z≠0/\z∈l then some (33,0) else ow z,h.k1,h.fk,h.root,fun i' b' w c=>?_,fun j x=>?_,fun p e s=>?_,fun p a e=>?_,fun p i' b' e=>?_,fun n u=>?_,h.rise,fun y d=>⟨?_,(h.pk y d).2.1,fun i' b'=>?_⟩,h.pd⟩
 .have r:=h.blk i' b' w;by_cases f:i'=i/\m<=b'
  .simp[f]at c
  .simp only[f,ua]at c ⊢;rw[zb,r c];rintro ⟨q,v⟩;obtain⟨b,A,t⟩:=D _ v q
   grind
 .have:=h.nz j x;rw[zb (by omega)];exact this
 .have:=h.gn p
  grind
 .have:=h.rg p
  grind
 .have:=h.sl p i' b'
  grind
 .rw[h.hs n u]
  grind
 .have:=(h.pk y d).1
  grind
 .have:=(h.pk y d).2.2 i' b'
  grind
end
def Tx.pf (x:Tx):Nat->Nat->Int:=fun i b=>if i<32 then (x.nodes.getD i zN).P.getD b 0 else if i=32 then x.fo.nd 0 b else 0
def fldR (X:Pn):Prop:=(1<=X.k/\X.k<=3/\0<=X.m/\X.m<=511/\0<=X.u/\X.u<=255/\0<=X.g/\X.g<=255/\0<=X.l/\X.l<=200)/\0<=X.s/\X.s<=512/\(X.k=2->1<=X.up/\X.up<=32)/\(X.k≠2->X.up=0)/\(X.P.length:Int)=tX X.s
def mj (X:Pn):Prop:=X=zN\/fldR X
structure TI (x:Tx) (s:Fs) (T:List Nat):Prop where
 ex:∃ow,TJ x.pf x.gone x.ow x.put s.k T ow
 pp:∀i b,i<32->256<x.pf i b->(getZ x.put (x.pf i b)).isSome=true
 len:x.nodes.length=32
 fine:∀a,1<=a->a<4->na x.fo a
 nd:∀i,i<32->mj (x.nodes.getD i zN)
 dv:∀y∈x.dirty,y.2=.bool true
 np:∀j,j<16->getZ x.put (x.fo.nd 0 j)=none
def blk (x:Tx) (s:Fs) (i b:Nat):List Int:=tE (secT x s) (x.pf i b)
def Tx.uw (x:Tx) (i:Nat) (y:Uw):Tx:={x.wow y.ow with put:=y.put,nodes:=x.nodes.set i {x.nodes.getD i zN with P:=y.P}}
theorem W3 {f g:Fo} {a:Nat} (e:g.nd a=f.nd a) (i:g.hs a=f.hs a) (h:na f a):na g a:=by
 have b:encT g a=encT f a:=by unfold encT;congr 1;funext j;unfold uO;rw[e,i]
 obtain⟨d,c⟩:=h;refine⟨?_,?_⟩
 .unfold badN at *;rw[e];exact d
 .unfold badT n9 vN at *;rw[e,b];exact c
theorem rp {α:Type} (l:List α) (i j:Nat) (a d:α):(l.set i a).getD j d=if j=i/\i<l.length then a else l.getD j d:=by
 simp only[zh,sG]
 grind
theorem l9 (x:Tx) (i:Nat) (y:Uw) (c:x.nodes.length=32) (a b:Nat):(x.uw i y).pf a b=if a<32 then (if a=i then y.P.getD b 0 else x.pf a b) else if a=32 then y.ow.fo.nd 0 b else 0:=by
 unfold Tx.pf Tx.uw Tx.wow;simp only[rp,c]
 grind
theorem YQ (x:Tx) (s:Fs) (q:Int) (D:List Int) (z:Tx) (a:z.put=putZ x.put q D) (p:Int) (b:0<=p):secT z s p.toNat=if p=q then D else secT x s p.toNat:=by
 unfold secT;rw[a,vK b];by_cases h:p=q
 .rw[ze h,h,ZC];rfl
 .rw[zb h,lu _ h]
theorem TI.pos {x:Tx} (h:TI x s T) (f:vsl i b):x.pf i b=0\/37<=x.pf i b/\(x.pf i b<(s.k:Int)\/256<x.pf i b/\x.pf i b<=x.fake):=by
 obtain⟨d,a⟩:=h.ex;by_cases c:x.pf i b=0
 .exact zt c
 .have:=a.rg _ _ (a.blk i b f c);have:=a.fk;have e:x.ow.fk=x.fake:=rfl;omega
theorem TI.wr {x:Tx} {y:Uw} (h:TI (x.uw i y) s T) (N:x.nodes.length=32) (O:i<32) (S:i∈T) (U:y.P.length<=8) (Q:b<y.P.length) (R:D.length=64/\ue D):
 TI (x.uw i (wrU s.k y b D)) s T/\(∀i' b',i'<32->blk (x.uw i (wrU s.k y b D)) s i' b'=if i'=i/\b'=b then D else blk (x.uw i y) s i' b')/\((wrU s.k y b D).ow.fl=false->y.ow.fl=false) /\
  y.ow.fk<=(wrU s.k y b D).ow.fk/\(wrU s.k y b D).ow.fk<=y.ow.fk+1/\(wrU s.k y b D).put.length<=y.put.length+1/\(wrU s.k y b D).P.length=y.P.length:=by
 obtain⟨L,n⟩:=h.ex;have r:(x.uw i y).pf i b=y.P.getD b 0:=by rw[l9 _ _ _ N,ze O,ze rfl]
 obtain⟨q,u,z,G,M,I,K,E,B,w,p,l,A,J,o⟩:=n.own (zt O:vsl i b);have t:(x.uw i y).ow=y.ow:=rfl;rw[r,t]at z;have e:wrU s.k y b D=⟨u,putZ y.put q D,y.P.set b q⟩:=by unfold wrU;rw[z]
 rw[e];have m:(x.uw i ⟨u,putZ y.put q D,y.P.set b q⟩).pf=updP (x.uw i y).pf i b q:=by
  funext i' b'
  unfold updP;rw[l9 _ _ _ N,l9 _ _ _ N,rp];rw[t]at p
  grind
 rw[<-m]at o;refine⟨⟨⟨_,o.put' (by simp) (fun C=>(I C).2) (fun i' b' H=>by simp only[vl]at H;grind) R⟩,?_,?_,?_,?_,h.dv,fun j n=>?_⟩,?_,by rw[t]at w;exact w,E,B,oS _ _ _,xG ..⟩
 .intro i' b' f g;rw[m]at g ⊢;unfold updP at g ⊢;show (getZ (putZ y.put q D) _).isSome=true;by_cases d:i'=i/\b'=b
  .rw[ze d,ZC];rfl
  .rw[zb d]at g ⊢;rw[lu _ (l i' b' (zt f) d)];exact h.pp i' b' f g
 .show (x.nodes.set i _).length=32;rw[xG,N]
 .intro a c F;exact W3 (congrFun p.1 a) (p.2 a (by omega)) (h.fine a c F)
 .intro j n;have c:=h.nd j n;unfold Tx.uw at c ⊢;simp only[rp,N]at c ⊢;split
  .rename_i d;rw[ze d]at c;rcases c with c|c
   .injection c with _ _ _ _ _ _ _ c;rw[c]at Q;exact yb Q (l6 _)
   .exact zu (by unfold fldR at c ⊢;simpa using c)
  .rename_i d;rw[zb d]at c;exact c
 .show getZ (putZ y.put q D) (u.fo.nd 0 j)=none;have c:=l 32 j (zu ⟨rfl,n⟩) (by omega);have v:=h.np j n;rw[p.1];exact (lu D c y.put).trans v
 .intro i' b' f;unfold blk;rw[m];unfold updP tE;by_cases d:i'=i/\b'=b
  .rw[ze d,zb G,ze d,YQ (x.uw i y) s q D _ rfl q (by omega),ze rfl]
  .rw[zb d,zb d];have c:=l i' b' (zt f) d;have v:=h.pos (i:=i') (b:=b') (zt f);split
   .rfl
   .rw[YQ (x.uw i y) s q D _ rfl _ (by omega),zb c]
def ja (s:Fs):Prop:=∀p:Nat,p<s.k->p<5\/37<=p->(secE s p).length=64/\ue (secE s p)
theorem VY (n:Nat):ue (List.replicate n 0):=fun x a=>by rw[uR]at a;omega
theorem TI.blk_ok {x:Tx} (h:TI x s T) (l:ja s) (k:i<32) (b:Nat):(blk x s i b).length=64/\ue (blk x s i b):=by
 unfold blk tE;split
 .exact⟨zR ..,VY _⟩
 .rename_i e;have j:=(h.pos (i:=i) (b:=b) (zt k)).resolve_left e;unfold secT;rw[vK (by omega)];cases c:getZ x.put (x.pf i b) with
  | some D=>
   obtain⟨g,d⟩:=h.ex;exact d.pd _ (nt c)
  | none=>
   have a:=h.pp i b k;rw[c]at a;have:¬256<x.pf i b:=fun f=>(by simpa using a f);exact l _ (by omega) (by omega)
theorem VI (c:∀b,(f b).length=64) (m:Nat):((List.range m).flatMap f).length=64*m:=by
 induction m with
 | zero=>rfl
 | succ m a=>rw[vH,vJ,zl,a];simp[c];omega
theorem Kl (c:∀b,(f b).length=64) (m n:Nat) (d:n<64*m):((List.range m).flatMap f)[n]?=(f (n / 64))[n%64]? :=by
 induction m with
 | zero=>omega
 | succ m a=>
  rw[vH,vJ];by_cases h:n<64*m
  .rw[zO (by rw[VI c];exact h),a h]
  .rw[zx (by rw[VI c];omega),VI c];simp only[xA,List.flatMap_nil,xn];rw[show n / 64=m by omega,show n%64=n-64*m by omega]
theorem Tn (P:List Int) (f:Int->List Int):P.flatMap f=(List.range P.length).flatMap fun b=>f (P.getD b 0):=by
 induction P with
 | nil=>rfl
 | cons p P a=>
  rw[xA,a,yz,List.range_succ_eq_map,xA,List.flatMap_map];rfl
theorem lP (x:Tx) (s:Fs) (a:i<32):x.dirD s i=((List.range (x.nodes.getD i zN).P.length).flatMap (blk x s i)).take (x.nodes.getD i zN).s.toNat:=by unfold Tx.dirD tc blk Tx.pf;rw[Tn];simp only[ze a]
theorem Xv (D:List Int) (b:Nat):(blkB D b).length=64:=by unfold blkB over;simp;omega
theorem Qm (D:List Int) (b r:Nat) (a:r<64) (h:64*b+r<D.length):(blkB D b)[r]?=D[64*b+r]? :=by unfold blkB over;rw[xE,xj,zO (by simp;omega),wM a,yo]
theorem OC (h:ue D) (b:Nat):ue (blkB D b):=by
 unfold blkB over;intro y a;rw[xE,xj]at a;rcases yv.1 a with a|a
 .exact h y (xY (xd a))
 .exact VY 64 y (xY a)
theorem Oa (D:List Int) (m:Nat) (h:D.length<=64*m):((List.range m).flatMap (blkB D)).take D.length=D:=by
 apply xS;intro n;by_cases a:n<D.length
 .rw[wM a,Kl (Xv D) _ _ (by omega),Qm D _ _ (by omega) (by omega),show 64*(n / 64)+n%64=n by omega]
 .rw[yd (by rw[zi];omega),yd (by omega)]
structure Cap (x:Tx) (n:Nat):Prop where
 fk:256<=x.fake/\x.fake<=256+n
 g:x.gone.length<=n
 p:x.put.length<=n
 d:8*x.dirty.length<=n
def Tx.cutX (x:Tx) (i:Nat) (m:Nat) (sz:Int):Tx:=
 {x with nodes:=x.nodes.set i {x.nodes.getD i zN with P:=(x.nodes.getD i zN).P.take m++List.replicate (m-(x.nodes.getD i zN).P.length) 0,s:=sz},dirty:=putZ x.dirty ((i:Int)+1) (.bool true),gone:=x.gone++((x.nodes.getD i zN).P.drop m).reverse}
theorem Xd (P:List Int) (m b:Nat):(P.take m++List.replicate (m-P.length) 0).getD b 0=if m<=b then 0 else P.getD b 0:=by
 simp only[zh,List.getElem?_append,zI,zi,yY];by_cases a:m<=b
 .rw[ze a,zb (by omega),zb (by omega)];rfl
 .rw[zb a];by_cases c:b<P.length
  .rw[ze (by omega),ze (by omega)]
  .rw[zb (by omega),ze (by omega),yd (by omega)];rfl
theorem Vg {x:Tx} (a:x.nodes.length=32) (b:i<32) (m:Nat) (sz:Int):(x.cutX i m sz).pf=fun i' b'=>if i'=i/\m<=b' then 0 else x.pf i' b':=by
 funext i' b'
 unfold Tx.pf Tx.cutX;simp only[rp,a];by_cases h:i'=i
 .subst h;simp only[b,vl,uv,true_and];rw[Xd]
 .simp[h]
theorem TI.cutX {x:Tx} (h:TI x s T) (C:i<32) (m:Nat) (sz:Int) (D:0<=sz/\sz<=512) (F:(m:Int)=tX sz) (E:x.nodes.getD i zN≠zN):TI (x.cutX i m sz) s T:=by
 obtain⟨B,r⟩:=h.ex;have f:=Vg h.len C m sz;have u:∀b,x.pf i b=(x.nodes.getD i zN).P.getD b 0:=fun b=>ze C;obtain⟨w,g⟩:=r.give (i:=i) (m:=m) C ((x.nodes.getD i zN).P.drop m).reverse (fun b A c=>by
  rw[u]at c ⊢;rw[mQ];have a:b<(x.nodes.getD i zN).P.length:=by
   rcases sa b (x.nodes.getD i zN).P.length with d|d
   .exact d
   .rw[zh,yd d]at c;exact yb rfl c
  refine va.2 ⟨b-m,?_⟩;rw[zh (l:=(x.nodes.getD i zN).P),zf a];rw[yo,show m+(b-m)=b by omega,zf a];rfl) (fun p e _=>by
  rw[mQ]at e;obtain⟨n,v⟩:=va.1 e;rw[yo]at v;exact⟨m+n,by omega,by rw[u,zh,v];rfl⟩)
 rw[<-f]at g;refine⟨⟨_,g⟩,fun z b o a=>?_,?_,h.fine,fun j r=>?_,fun y q=>?_,h.np⟩
 .rw[f]at a ⊢;simp only at a ⊢;split at a
  .omega
  .rename_i t;rw[zb t];exact h.pp z b o a
 .show (x.nodes.set i _).length=32;rw[xG];exact h.len
 .have d:=h.nd j r;unfold Tx.cutX;simp only[rp,h.len];split
  .rename_i t;obtain⟨rfl,_⟩:=t;have k:=d.resolve_left E;refine zu ⟨k.1,D.1,D.2,k.2.2.2.1,k.2.2.2.2.1,?_⟩;simp only[zl,zi,zR];omega
  .exact d
 .rcases ms q with rfl|q
  .rfl
  .exact h.dv y q
def Tx.uy (x:Tx) (i:Nat):Uw:=⟨x.ow,x.put,(x.nodes.getD i zN).P⟩
theorem fX (x:Tx) (i:Nat) (a:x.nodes.length=32) (b:i<32):x.uw i (x.uy i)=x:=by
 have:x.nodes.set i (x.nodes.getD i zN)=x.nodes:=by rw[zh,zf (by omega)];exact List.set_getElem_self _
 show {x with nodes:=x.nodes.set i (x.nodes.getD i zN)}=x;rw[this]
theorem RQ (x:Tx) (k i:Nat) (D:List Int) (a:x.nodes.length=32) (b:i<32):
 x.fillX k i (x.nodes.getD i zN) D=(x.cutX i ((D.length+63) / 64) D.length).uw i (sW k D ((x.cutX i ((D.length+63) / 64) D.length).uy i) ((D.length+63) / 64)):=by
 unfold Tx.fillX Tx.uw Tx.uy Tx.cutX Tx.wow Tx.ow;simp only[rp,a,b,uv,vl,rI]
theorem TI.fills {z:Tx} (h:TI z s T) (v:i<32) (w:i∈T) (y:(z.nodes.getD i zN).P.length<=8) (x:ue D):∀j,j<=(z.nodes.getD i zN).P.length->TI (z.uw i (sW s.k D (z.uy i) j)) s T /\
 (∀i' b',i'<32->blk (z.uw i (sW s.k D (z.uy i) j)) s i' b'=if i'=i/\b'<j then blkB D b' else blk z s i' b')/\(sW s.k D (z.uy i) j).P.length=(z.nodes.getD i zN).P.length /\
 z.fake<=(sW s.k D (z.uy i) j).ow.fk/\(sW s.k D (z.uy i) j).ow.fk<=z.fake+j/\(sW s.k D (z.uy i) j).put.length<=z.put.length+j
 | 0,_=>by unfold sW;rw[fX z i h.len v];exact⟨h,fun i' b' _=>by rw[zb (by omega)],rfl,wO _,by show z.fake<=_;omega,zL⟩
 | j+1,u=>by
  obtain⟨p,o,f,g,r,t⟩:=h.fills v w y x j (by omega);obtain⟨c,m,q,n,d,e,l⟩:=p.wr h.len v w (by omega) (b:=j) (by omega) (D:=blkB D j) ⟨Xv D j,OC x j⟩;refine⟨c,fun i' b' a=>(m i' b' a).trans ?_,l.trans f,wN g n,wN d (by omega),zr e (by omega)⟩;rw[o i' b' a]
  grind
theorem WH {x z:Tx} (a:i<32) (c:(z.nodes.getD i zN).P.length=(x.nodes.getD i zN).P.length) (d:(z.nodes.getD i zN).s=(x.nodes.getD i zN).s) (e:∀b,blk z s i b=blk x s i b):z.dirD s i=x.dirD s i:=by rw[lP _ _ a,lP _ _ a,c,d,show blk z s i=blk x s i from funext e]
theorem fld8 {X:Pn} (h:mj X):X.P.length<=8:=by
 rcases h with rfl|⟨_,c,b,_,_,a⟩
 .show 0<=8;omega
 .unfold tX at a;split at a<;>omega
theorem TI.fill {x:Tx} (h:TI x s T) (L:i<32) (N:i∈T) (D:List Int) (O:D.length<=512/\ue D) (Q:x.nodes.getD i zN≠zN) (n:Nat) (M:Cap x n):
 TI (x.fillX s.k i (x.nodes.getD i zN) D) s T/\(x.fillX s.k i (x.nodes.getD i zN) D).dirD s i=D/\(∀j,j<32->∀b,blk (x.fillX s.k i (x.nodes.getD i zN) D) s j b=if j=i then (if b<(D.length+63) / 64 then blkB D b else List.replicate 64 0) else blk x s j b)/\Cap (x.fillX s.k i (x.nodes.getD i zN) D) (n+8) /\
  ∃P,(x.fillX s.k i (x.nodes.getD i zN) D).nodes=x.nodes.set i {x.nodes.getD i zN with P:=P,s:=(D.length:Int)}/\P.length=(D.length+63) / 64:=by
 have e:=h.len;rw[RQ x s.k i D e L];have t:(((D.length+63) / 64:Nat):Int)=tX (D.length:Int):=by unfold tX;split<;>omega
 have K:=fld8 (h.nd i L);have F:D.length<=64*((D.length+63) / 64)/\(D.length+63) / 64<=8:=by omega
 generalize (D.length+63) / 64=m at *
 have l:=Vg e L m (D.length:Int);have f:∀y:Uw,((x.cutX i m D.length).uw i y).nodes=x.nodes.set i {x.nodes.getD i zN with P:=y.P,s:=(D.length:Int)}:=fun y=>by unfold Tx.uw Tx.cutX;simp only[rp,e,L,uv,vl,rI]
 have z:=h.cutX L m D.length (by omega) t Q;have q:(((x.cutX i m D.length).nodes.getD i zN).P).length=m:=by unfold Tx.cutX;simp only[rp,e,L,uv,vl,zl,zi,zR];omega
 obtain⟨H,v,r,B,A,E⟩:=z.fills L N (by omega) O.2 m (by omega);rw[q]at r;have C:=M.g;have u:=M.fk;have w:=M.p;have I:=M.d;refine⟨H,?_,fun j G b=>(v j b G).trans ?_,⟨⟨wN u.1 B,wN A (by show x.fake+_<=_;omega)⟩,?_,zr E (by show x.put.length+_<=_;omega),?_⟩,_,f _,r⟩
 .rw[lP _ _ L,f];simp only[rp,e,L,uv,vl];rw[r,yy];refine Eq.trans ?_ (Oa D m F.1);rw[rj,rj,wW fun b o=>(v i b L).trans (ze ⟨rfl,yT.1 o⟩)]
 .have o:blk (x.cutX i m D.length) s j b=if j=i/\m<=b then List.replicate 64 0 else blk x s j b:=by
   unfold blk;rw[l];simp only;by_cases M:j=i/\m<=b
   .rw[ze M,ze M];rfl
   .rw[zb M,zb M];rfl
  rw[o];by_cases c:j=i
  .by_cases a:b<m
   .simp[c,a]
   .simp[c,a,Nat.le_of_not_lt a]
  .simp[c]
 .show (x.gone++_).length<=n+8;rw[zl,ug,yx];omega
 .have J:=oS ((i:Int)+1) (.bool true:Value) x.dirty;show 8*(putZ x.dirty _ _).length<=_;omega
