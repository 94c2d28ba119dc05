import Derived.Test.YtakfhadmokoikaaGreatDoorKA34
set_option maxHeartbeats 0
set_option linter.all false
set_option maxRecDepth 100000
namespace Go.Proofs.YtakfhadmokoikaaGreatDoor
open Go.Proofs.Tryz Go.RowKit
variable {B gf gt:Nat} {E:List Nd} {F F1 G T:Nat->Prop} {L:List Pn} {a:Addr} {fp v:Value} {p:Int} {s:Fs} {w w0 w1 w2:World}
theorem S3 (R:xT w v 8 L.length (uu E)) (Q:tP G w E L) (S:L.length=32):
 ∃gn on cn,v=.slice (some ⟨gn,on,none⟩) 32 cn/\gn<w.heap.size/\∀(i:Nat) (X:Pn),L[i]?=some X->∃yq yn yc,
  w.cell? (gn,on+i*8)=some (.int .i64 X.k)/\w.cell? (gn,on+i*8+1)=some (.int .i64 X.m)/\w.cell? (gn,on+i*8+2)=some (.int .i64 X.u)/\w.cell? (gn,on+i*8+3)=some (.int .i64 X.g) /\
  w.cell? (gn,on+i*8+4)=some (.int .i64 X.s)/\w.cell? (gn,on+i*8+5)=some (.int .i64 X.l)/\w.cell? (gn,on+i*8+6)=some (.int .i64 X.up)/\w.cell? (gn,on+i*8+7)=some (.slice yq yn yc) /\
  Out G w (fun w'=>vQ w' (yq,yn,yc) X.P):=by
 have e:E.length=32:=by rw[Q.1];exact S
 rw[<-Q.1]at R;obtain⟨O,h,b,A⟩:=jC R;rw[e]at b A;subst b;obtain⟨g,o,rfl,C,N⟩:=A.o (by omega);refine⟨g,o,h,rfl,C,fun i X f=>?_⟩;have c:i<L.length:=(zy.1 f).1;have a:i<E.length:=by omega
 obtain⟨p,x,t,y,z,q,r,B⟩:=mG N i a;have d:=Q.2 i a c;have n:L[i]=X:=by rw[zf c]at f;injection f
 rw[n]at d;obtain⟨D,F,J,M,K,H,I,j⟩:=d;rw[D]at p;rw[F]at x;rw[J]at t;rw[M]at y;rw[K]at z;rw[H]at q;rw[I]at r;exact⟨_,_,_,p,x,t,y,z,q,r,B,j⟩
def useP (X:Pn) (user:Int):Nat:=if X.k≠0/\X.u=user then mg X.P else 0
def so (L:List Pn) (user:Int):Nat->Nat
 | 0=>0
 | j+1=>so L user j+useP (L.getD j zN) user
theorem Zd {L:List Pn} (h:∀X∈L,X.P.length<=8) (e:Int):∀j,so L e j<=8*j
 | 0=>zL
 | j+1=>by
  have c:=Zd h e j;have b:useP (L.getD j zN) e<=8:=by
   unfold useP;split
   .by_cases a:j<L.length
    .have:=h _ (zz a);have d:=YF L[j].P;rw[zh,zf a,tt];omega
    .rw[zh,yd (by omega)]
     decide
   .omega
  unfold so;omega
theorem JB (hv:xT w v 8 L.length (uu E)) (hE:tP G w E L) (hl:L.length=32) (hP:∀X∈L,X.P.length<=8) (aa:Int):
 Calls prog 126 #[v,aa] w (fun e w'=>e=.returned (.int .i64 (so L aa 32:Int))/\Below w w w'):=by
 obtain⟨gn,on,cn,rfl,M,J⟩:=S3 hv hE hl;have J:=Lib.hid J;have D:=Lib.hid hl;have S:=Lib.hid hP;have r:=Zd hP aa;have H:=Lib.hid r;clear hv hE hl hP r;go_enter func126,ntmps126;go_wp2;go_loopw [5,10] (fun kv R wr=>∃j:Nat,j<=32/\R=.int .i64 j/\kv=.int .i64 (so L aa j:Int)/\Hid (Below w w wr)) (fun _ R _=>32-(intOf R).toNat);case atStart=>exact⟨0,by omega,rfl,rfl,zB⟩
 case round=>
  obtain⟨j,hj,rfl,rfl,d⟩:=hrel;by_cases h:j<32
  .have O:(j:Int)<32:=(by omega);have F:j<L.length:=(by rw[D.o];exact h);obtain⟨X,HX⟩:∃X,Hid (L[j]?=some X):=⟨_,zf F⟩;have I:Hid (L.getD j zN=X):=(by show _=_;rw[zh,HX.o];rfl);have an:X.P.length<=8:=S.o X (xK HX.o);obtain⟨T,B,C,e0,e1,e2,e3,e4,e5,e6,e7,hI⟩:=J.o j X HX.o;have cc:=fun i=>d.o.cell (p:=⟨gn,i,none⟩) M;rw[<-cc]at e0 e1 e2 e3 e4 e5 e6 e7;have HI:=Lib.hid (xT.below hI.now d.o);have a:Hid (so L aa (j+1)=so L aa j+useP X aa):=(by show _=_;rw[<-I.o];rfl);have Q:=H.o j;obtain⟨U,x⟩:=zD (so L aa j);rw[x.o]at Q ⊢;have ai:¬gn=wr.heap.size:=(by have:=d.o.size;omega);obtain⟨y,Z⟩:=zD X.k;obtain⟨z,A⟩:=zD X.u;rw[Z.o]at e0;rw[A.o]at e2;have c:Hid (Below w w (wr.alloc (.cells #[y,X.m,z,X.g,X.s,X.l,X.up,(T,B,C)] 59))):=d.o.alloc d.o.size _;clear hI cc;by_cases t:y=0
   .subst t;have b:Hid (so L aa (j+1)=U):=(by show _=_;rw[a.o,x.o];unfold useP;rw[zb (by rw[Z.o];simp)];rfl);go_wp2;go_roundw;case rel=>exact⟨j+1,by omega,by go_num,by rw[b.o],c⟩
    case measure=>simp[intOf];omega
   .have b0:(y==0)=false:=(by simpa using t);have b1:(y != 0)=true:=(by simpa using t);by_cases K:z=aa
    .subst K;have b:Hid (so L z (j+1)=U+mg X.P):=(by show _=_;rw[a.o,x.o];unfold useP;rw[ze ⟨by rw[Z.o];exact t,A.o⟩]);have q:=Lib.hid (YF X.P);have f:=Lib.hid (fun (W:World) (hW:Below wr wr W)=>TO y X.m z X.g X.s X.l X.up (T,B,C) X.P W (xT.below HI.o hW) (by omega));obtain⟨V,HV⟩:=zD (mg X.P);rw[HV.o]at f q b;have i1:IntKind.i64.wrap ((U:Int)+(V:Int))=(U:Int)+(V:Int):=zQ _ (by have:=q.o;omega);have Y:Hid (Below wr wr (wr.alloc (.cells #[y,X.m,z,X.g,X.s,X.l,X.up,(T,B,C)] 59))):=zB.alloc zL _;go_wp2_with fail
     refine (f.o _ Y.o).mono ?_;rintro e w2 ⟨rfl,n⟩;have N:Hid (Below w w w2):=Below.step c.o n;clear n;go_wp2;go_roundw;case rel=>exact⟨j+1,by omega,by go_num,by rw[b.o];go_num,N⟩
     case measure=>simp[intOf];omega
    .have b2:(z==aa)=false:=(by simpa using K);have b:Hid (so L aa (j+1)=U):=(by show _=_;rw[a.o,x.o];unfold useP;rw[zb (by rw[A.o];simp[K])];rfl);go_wp2;go_roundw;case rel=>exact⟨j+1,by omega,by go_num,by rw[b.o],c⟩
     case measure=>simp[intOf];omega
  .obtain rfl:j=32:=(by omega);go_wp2;go_ret;exact⟨rfl,d.o⟩
theorem Rt (h:FsAt w gf s F a):∃nv E,w.cell? (gf,195)=some nv/\xT w nv 8 s.nodes.length (uu E)/\tP F w E s.nodes:=by obtain⟨⟨o,y,nv,K,G,E,p,J,k,q,B,t,v,D,u,n,c,g,l,i,d,e,j,m,f⟩,H,I,x,A,z,C,r⟩:=h;obtain⟨_,_,_,b,_,_⟩:=nu k;have:=n.now;rw[c.1]at this;exact⟨nv,E,b,this,c⟩
theorem Th (h:FsAt w gf s F a):
 Calls prog 282 #[(gf,())] w (fun e w'=>e=.returned s.k/\w=w'):=by
 obtain⟨⟨I,L,M,Q,N,E,K,O,n,m,z,q,t,C,r,y,D,f,j,g,b,c,i,l,d⟩,G,H,u,x,v,B,p⟩:=h;obtain⟨P,_,_,_,_,_⟩:=nu n;have A:=Lib.hid (mC m);clear n m z q t C r y D f j g b c i l d G H u x v B p;go_enter func282,ntmps282;go_wp2_with fail
 refine A.o.mono ?_;rintro e J ⟨rfl,rfl⟩;go_wp2;go_ret;simp
theorem Mq (h:FsAt w gf s F a) (n:Nat) (t:n<s.k):
 Calls prog 284 #[.agg #[(gf,())],n] w (Ws (secE s n) w):=by
 have b:Hid (Below w w (w.alloc (.cells #[(gf,())] 87))):=zB.alloc zL _;have q:=Lib.hid (Kf (h.below b.o) n t);generalize secE s n=D at *
 clear h;go_enter func284,ntmps284;go_wp2_with fail
 refine q.o.mono ?_;rintro e p ⟨v,rfl,g,f,c,j,d,m,i,l⟩;have r:Hid (lq D w v p):=⟨g,f,c,j,⟨zr b.o.size d.1,d.2⟩,m,i,Below.step b.o l⟩;clear j d m i l;go_wp2;go_ret2;exact⟨v,rfl,r.o⟩
theorem Mp (h:FsAt w gf s F a):
 Calls prog 285 #[.agg #[(gf,())]] w (fun e w'=>e=.returned s.k/\Below w w w'):=by
 have b:Hid (Below w w (w.alloc (.cells #[(gf,())] 87))):=zB.alloc zL _;have c:=Lib.hid (Th (h.below b.o));clear h;go_enter func285,ntmps285;go_wp2_with fail
 refine c.o.mono ?_;rintro e d ⟨rfl,rfl⟩;go_wp2;go_ret;exact⟨rfl,b.o⟩
def mf (s:Fs):Prop:=∀n,n<s.k->∀x∈secE s n,0<=x/\x<=255
def fsRdr (gf:Nat):Rdr:=⟨87,.agg #[(gf,())],284,285,.agg #[(gf,())],.agg #[(gf,())]⟩
theorem fsRdr1 (gf : Nat) : ∀ W : World, (nilAhead 442 87 (.agg #[.pointer (some ⟨gf, 0, none⟩)]) "Read").run prog W = .ok (some false) W := fun W => by kernel_rfl
theorem fsRdr2 (gf : Nat) : ∀ W : World, (nilAhead 442 87 (.agg #[.pointer (some ⟨gf, 0, none⟩)]) "Size").run prog W = .ok (some false) W := fun W => by kernel_rfl
theorem fsRdr3 (gf : Nat) : ∀ W : World, (method 442 87 (.agg #[.pointer (some ⟨gf, 0, none⟩)]) "Read").run prog W = .ok (284, (.agg #[.pointer (some ⟨gf, 0, none⟩)])) W := fun W => by kernel_rfl
theorem fsRdr4 (gf : Nat) : ∀ W : World, (method 442 87 (.agg #[.pointer (some ⟨gf, 0, none⟩)]) "Size").run prog W = .ok (285, (.agg #[.pointer (some ⟨gf, 0, none⟩)])) W := fun W => by kernel_rfl
theorem fsRdr5 (gf:Nat):∀(x:Value) (W:World),(callFunc 284 #[(.agg #[(gf,())]),x]).run prog W=.ok (.enter 284 #[(.agg #[(gf,())]),x]) W:=fun x W=>by kernel_rfl
theorem fsRdr6 (gf:Nat):∀W:World,(callFunc 285 #[(.agg #[(gf,())])]).run prog W=.ok (.enter 285 #[(.agg #[(gf,())])]) W:=fun W=>by kernel_rfl
theorem ip (h:FsAt w gf s F a) (d:mf s):RdAt w (fsRdr gf) (secE s) s.k:=
 ⟨fsRdr1 gf,fsRdr2 gf,fsRdr3 gf,fsRdr4 gf,fsRdr5 gf,fsRdr6 gf,
  fun _w' b n c=>Mq (h.below b) n c,fun _w' b=>Mp (h.below b),fun n c=>gu h n c,d⟩
def dkRdr (a:Addr):Rdr:=⟨27,.pointer (some a),47,48,.pointer (some a),.pointer (some a)⟩
theorem dkRdr1 (a : Addr) : ∀ W : World, (nilAhead 442 27 (.pointer (some a)) "Read").run prog W = .ok (some false) W := fun W => by kernel_rfl
theorem dkRdr2 (a : Addr) : ∀ W : World, (nilAhead 442 27 (.pointer (some a)) "Size").run prog W = .ok (some false) W := fun W => by kernel_rfl
theorem dkRdr3 (a : Addr) : ∀ W : World, (method 442 27 (.pointer (some a)) "Read").run prog W = .ok (47, (.pointer (some a))) W := fun W => by kernel_rfl
theorem dkRdr4 (a : Addr) : ∀ W : World, (method 442 27 (.pointer (some a)) "Size").run prog W = .ok (48, (.pointer (some a))) W := fun W => by kernel_rfl
theorem dkRdr5 (a:Addr):∀(x:Value) (W:World),(callFunc 47 #[(.pointer (some a)),x]).run prog W=.ok (.enter 47 #[(.pointer (some a)),x]) W:=fun x W=>by kernel_rfl
theorem dkRdr6 (a:Addr):∀W:World,(callFunc 48 #[(.pointer (some a))]).run prog W=.ok (.enter 48 #[(.pointer (some a))]) W:=fun W=>by kernel_rfl
theorem ZP {st:Dk} {k:Nat} (h:uL w (.pointer (some a)) st k F) (f:∀n,n<k->∀x∈sec st.N n,0<=x/\x<=255):RdAt w (dkRdr a) (sec st.N) k:=
 ⟨dkRdr1 a,dkRdr2 a,dkRdr3 a,dkRdr4 a,dkRdr5 a,dkRdr6 a,
  fun _w' b n d=>gT (h.below b) n d,fun _w' b=>(mC (h.below b)).mono fun _e _w2 ⟨e,c⟩=>⟨e,c▸zB⟩,fun _n d=>mD h.lens.2 d,f⟩
theorem RB (h:FsAt w gf s F a) (j:mf s) (i:jk (secE s) s.fo s.k):
 Calls prog 18 #[(gf,())] w (fun e w'=>e=.returned (.slice none 0 0)/\Below w w w'):=by
 have d:=MP (ip h j) h.k1 h.k0 s.fo i;have f:Hid (Calls prog 58 #[.iface 87 (.agg #[(gf,())])] w (fun e w'=>e=.returned (.slice none 0 0)/\Below w w w')):=d;clear h j i;go_enter func18,ntmps18;go_wp2_with fail
 refine f.o.mono ?_;rintro e g ⟨rfl,b⟩;have c:=Lib.hid b;clear b;go_wp2;go_ret;exact⟨rfl,c.o⟩
def rz (D:List Int) (at0 n:Nat):List Int:=(D.drop at0).take n
theorem Q9 (v:Value) (D:List Int) (w:World) (h:tQ w v D) (R:D.length<=1000) (p n:Nat) (T:n<=512) (S:0<n) (U:p<=1000000):
 Calls prog 39 #[v,p,n] w (fun e w'=>∃v',e=.returned v'/\vC w' v' (rz D p n)/\Below w w w'):=by
 obtain⟨N,b⟩:=zD D.length;obtain⟨q,l,rfl⟩:=mH h.1 N b.o;have y:N<=l:=h.2 q N l rfl;have J:=Lib.hid h;rw[b.o]at R;clear h;by_cases s:N<=p
 .have A:decide ((N:Int)<=(p:Int))=true:=yf (by omega);have u:(N:Int)<=(p:Int):=by omega
  have L:Hid (rz D p n=[]):=by show _=_;unfold rz;rw[vm (by rw[b.o];exact s)];simp
  go_enter lz,nO
  go_wp2;go_ret;rw[L.o];exact⟨_,rfl,⟨rfl,zt ⟨rfl,_,_,rfl⟩⟩,zB⟩
 .have A:decide ((N:Int)<=(p:Int))=false:=zK (by omega);have u:¬(N:Int)<=(p:Int):=by omega
  have Q:=zW ((p:Int)+(n:Int));obtain⟨m,r,f⟩:∃m:Nat,min N (p+n)=m/\(m<=N/\m<=p+n/\(m=N\/m=p+n)):=⟨_,rfl,by omega⟩;have c:m-p=min n (N-p):=by omega
  rw[<-r]at c f;have i:0<min n (N-p):=by omega
  have G:p<=m:=by omega
  have F:m<=l:=by omega
  obtain⟨_,⟨O,_⟩|⟨g,o,B,K,t⟩⟩:=id J.o.1
  .have:=b.o;omega
  injection K with H E I;subst H I;clear E;have k:=Lib.hid (jB (g,o+p,(min N (p+n)-p),(l-p)) (rz D p n) w ⟨by rw[vO,vD],zu ⟨g,o+p,l-p,by unfold rz;rw[zi,yx,b.o];rw[c],fun j x d=>by
   unfold rz at d;rw[od,zI]at d;split at d
   .rw[mr,yo]at d;have:=t (p+j) x d
    rwa [<-yA]at this
   .cases d⟩⟩ (by unfold rz;rw[zi,yx,b.o];omega) (by unfold rz;rw[zi,yx,b.o];omega))
  rw[show min N (p+n)=(min (N:Int) ((p:Int)+(n:Int))).toNat by omega]at k;clear f c i t;go_enter lz,nO;go_wp2_with fail
  refine k.o.mono ?_;rintro e M ⟨P,rfl,a⟩;have z:=Lib.hid a.below;have C:=Lib.hid a.at;clear a;go_wp2;go_ret;exact⟨_,rfl,C.o,z.o⟩
theorem OL {x:Tx} (h:TxAt w B F gt fp x T) (i:Nat) (A:i<32) (X:Pn) (y:x.nodes[i]?=some X) (z:0<X.l):
 Calls prog 56 #[(gt,()),.int .i64 ((i:Int)+1)] w (fun e w'=>e=.returned (.tuple #[])/\Below w w w'):=by
 have d:=Lib.hid (mp h i A X y);obtain⟨l,r⟩:=zD X.l;rw[r.o]at d z;have t:decide (0<l)=true:=yf z;clear h y;go_enter func56,ntmps56;go_wp2_with fail
 refine d.o.mono ?_;rintro e p ⟨q,n,c,rfl,f,a⟩;have b:=Lib.hid a;have j:Hid (Below w w (p.alloc (.cells #[X.k,X.m,X.u,X.g,X.s,l,X.up,(q,n,c)] 59))):=b.o.alloc b.o.size _;have v:=(uI (zT p (.cells #[X.k,X.m,X.u,X.g,X.s,l,X.up,(q,n,c)] 59))).2.2.2.2.2.1;clear f a;go_wp2;refine⟨rfl,.tuple #[],(by simp[results,jP,go_sem]),rfl,j.o⟩
theorem heldT: prog.underlying 99=some (.map 3 3):=by kernel_rfl
theorem intZv (w:World):(zeroValue 3).run prog w=.ok (.int .i64 0) w:=(uW (P:=prog) (t:=3) (v:=.int .i64 0) (n:=1) (by kernel_rfl)).1 w
theorem M5 {x:Tx} (hf:FsAt w0 gf s F1 a) (hb:Below w0 w0 w) (h:TxAt w w0 F gt (gf,()) x T) (i:Nat) (hi:i<32) (X:Pn) (hX:x.nodes[i]?=some X) (hl:X.l=0) (hh:0<(getZ s.held ((i:Int)+1)).getD 0):
 Calls prog 56 #[(gt,()),.int .i64 ((i:Int)+1)] w (fun e w'=>e=.returned (.tuple #[])/\Below w w w'):=by
 have f:=Lib.hid (mp h i hi X hX);rw[hl]at f;obtain⟨l,C⟩:=zD ((getZ s.held ((i:Int)+1)).getD 0);have v:Hid (∀W:World,Below w w W->∃j,W.cell? (gt,0)=some (.pointer (some ⟨gf,0,none⟩))/\W.cell? (gf,197)=some (.map (some j))/\(Instr.lookup 99 (.map (some j)) (.int .i64 ((i:Int)+1)) false).run prog W=.ok (.int .i64 l) W):=fun W B=>by obtain⟨rv,gn,cn,gd,gp,Z,E,pl,M⟩:=(h.below B).lies;obtain⟨S,_⟩:=sZ M.row;obtain⟨⟨U,L,G,bt,j,E',V,FD,K,f2,f3,f4,f5,f6,f7,Y,f9,H,P,N,R,I,y,J,O⟩,_⟩:=(hf.below hb).below B;obtain⟨_,_,_,_,_,p⟩:=nu K;have D:=y.look (k:=(i:Int)+1) intT heldT (intZv W) (by unfold InZ;omega);rw[X7,C.o]at D;exact⟨j,S,p,D⟩
 rw[C.o]at hh;have d1:decide (0<l)=true:=yf hh;clear h hX hf hb hl;go_enter func56,ntmps56;go_wp2_with fail
 refine f.o.mono ?_;rintro e z ⟨q,n,c,rfl,t,r⟩;have b:=Lib.hid r;have d:Hid (Below w w (z.alloc (.cells #[X.k,X.m,X.u,X.g,X.s,(),X.up,(q,n,c)] 59))):=b.o.alloc b.o.size _;have s5:=(uI (zT z (.cells #[X.k,X.m,X.u,X.g,X.s,(),X.up,(q,n,c)] 59))).2.2.2.2.2.1;clear t r;obtain⟨j,y0,A,Q⟩:=v.o _ d.o;go_wp2;refine⟨rfl,.tuple #[],(by simp[results,jP,go_sem]),rfl,d.o⟩
theorem Um {x:Tx} (hf:FsAt w0 gf s F1 a) (hb:Below w0 w0 w) (h:TxAt w w0 F gt (gf,()) x T) (hF:∀i,F i->i<w.heap.size)
 (i:Nat) (hi:i<32) (X:Pn) (hX:x.nodes[i]?=some X) (hl:X.l=0) (hh:(getZ s.held ((i:Int)+1)).getD 0=0) (af:X.P.length<=8) (hg:x.gone.length<=900) (hd:x.dirty.length<900):
 Calls prog 56 #[(gt,()),.int .i64 ((i:Int)+1)] w
  (fun e w'=>e=.returned (.tuple #[])/\vS w0 F gt (gf,()) {x with gone:=x.gone++nzF X.P,nodes:=x.nodes.set i zN,dirty:=putZ x.dirty ((i:Int)+1) (.bool true)} T w w'):=by
 have H:=Lib.hid h;have HF:=Lib.hid (hf.below hb);have b4:=Lib.hid hF;have aJ:=Lib.hid af;have HG:=Lib.hid hg;have ai:=Lib.hid (mp h i hi X hX);rw[hl]at ai;have aO:Hid (∀W:World,Below w w W->∃bh,W.cell? (gt,0)=some (.pointer (some ⟨gf,0,none⟩))/\W.cell? (gf,197)=some (.map (some bh))/\(Instr.lookup 99 (.map (some bh)) (.int .i64 ((i:Int)+1)) false).run prog W=.ok (.int .i64 0) W):=fun W hW=>by obtain⟨rv,gn,cn,gd,gp,L,E,pl,J⟩:=(h.below hW).lies;obtain⟨c0,_⟩:=sZ J.row;obtain⟨⟨gl,bL,bI,bt,bh,E',tl,FD,f1,f2,f3,f4,f5,f6,f7,f8,f9,cb,bE,b9,cd,bT,aI,b7,bC⟩,_⟩:=(hf.below hb).below hW;obtain⟨_,_,_,_,_,au⟩:=nu f1;exact⟨bh,c0,au,by have h9:=aI.look (k:=(i:Int)+1) intT heldT (intZv W) (by unfold InZ;omega);rw[X7,hh]at h9;exact h9⟩
 clear h hf hF hX hl;go_enter func56,ntmps56;go_wp2_with fail
 refine ai.o.mono ?_;rintro e w1 ⟨q,n,c,rfl,ag,ac⟩;have ar:=Lib.hid ac;have aX:=Lib.hid ag;have K:Hid (Below w w (w1.alloc (.cells #[X.k,X.m,X.u,X.g,X.s,(),X.up,(q,n,c)] 59))):=ar.o.alloc ar.o.size _;have am:Hid ((w1.alloc (.cells #[X.k,X.m,X.u,X.g,X.s,(),X.up,(q,n,c)] 59)).heap[w1.heap.size]?=some (.cells #[X.k,X.m,X.u,X.g,X.s,(),X.up,(q,n,c)] 59)):=zH;have V:Hid (jb (fun i=>F i\/T i) X (w1.alloc (.cells #[X.k,X.m,X.u,X.g,X.s,(),X.up,(q,n,c)] 59)) q n c):=aX.o.below (zB.alloc zL _);have bN:Hid (w.heap.size<=w1.heap.size):=ac.size;clear ag ac;obtain⟨bh,y0,ax,aA⟩:=aO.o _ K.o;obtain⟨m0,m1,m2,m3,m4,m5,m6,m7⟩:=uI am.o;go_wp2;clear y0 ax aA m0 m1 m2 m3 m4 m5 m6 m7 am;obtain⟨w2,A⟩:=zD (w1.alloc (.cells #[X.k,X.m,X.u,X.g,X.s,(),X.up,(q,n,c)] 59));have M:Hid (X.P.length=n):=by obtain⟨p,cp,hv,_⟩:=Zq V.o.now;injection hv with e1 e2 e3;exact e2.symm
 have bG:Hid (vS w0 F gt (gf,()) x T w w2):=by rw[<-A.o];exact vS.same H.o K.o
 have aB:Hid (TxAt w2 w0 F gt (gf,()) x T):=by rw[<-A.o];exact H.o.below K.o
 have Z:Hid (Below w w w2):=by rw[<-A.o];exact K.o
 rw[A.o]at V;rw[A.o];have bS:n<=8:=by have G:=M.o;have h2:=aJ.o;omega
 go_loopw [28] (fun iv wr=>∃j:Nat,j<=n/\iv=.int .i64 (j:Int)/\Hid (vS w0 F gt (gf,()) {x with gone:=x.gone++nzF (X.P.take j)} T w2 wr)) (fun iv _=>20-(intOf iv).toNat)
 case atStart=>exact⟨0,ye _,rfl,by
  have:({x with gone:=x.gone++nzF (X.P.take 0)}:Tx)=x:=by show ({x with gone:=x.gone++[]}:Tx)=x;rw[xn]
  show vS _ _ _ _ _ _ _ _;rw[this];exact vS.same aB.o zB⟩
 case round=>
  obtain⟨j,hj,rfl,an⟩:=hrel;have ij:=zW ((j:Int)+1);obtain⟨T',t1,t2,t3,t4⟩:=id an.o;have C:=Lib.hid t1;have d:Hid ((∀i,T' i->T i\/w2.heap.size<=i)/\yK T w2 wr/\∀i,T i->T' i):=⟨t2,t3,t4⟩;by_cases a8:j<n
  .have d1:(j:Int)<(n:Int):=(by omega);have d2:decide ((j:Int)<(n:Int))=true:=yf d1;have hI:=V.o wr (t3.mono fun i _ hi=>zu hi);obtain⟨_,⟨h0,_⟩|⟨gq,oq,cq,hv,O⟩⟩:=hI
   .have:=M.o;omega
   injection hv with e1 e2 e3;subst e1 e3;have a2:j<X.P.length:=(by rw[M.o];exact a8);have a5:wr.cell? (gq,oq+j)=some (.int .i64 X.P[j]):=O j _ (by unfold ints;rw[xy,zf a2];rfl);have ay:nzF (X.P.take (j+1))=nzF (X.P.take j)++nzF [X.P[j]]:=(by rw[<-Wo];congr 1;exact hY _ _ _ (zf a2));have U:=Lib.hid ay;obtain⟨p,Hp⟩:=zD (X.P[j]);rw[Hp.o]at a5 U;clear ay O t1 t2 t3 t4;by_cases ab:p=0
   .subst ab;go_wp2;go_roundw;case rel=>exact⟨j+1,by omega,by go_num,by show vS _ _ _ _ _ _ _ _;rw[U.o,show nzF [(0:Int)]=[] from rfl,xn];exact an.o⟩
    case measure=>simp[intOf];omega
   .have b0:(p != 0)=true:=(by simpa using ab);have be:nzF [p]=[p]:=(by unfold nzF;simp[ab]);obtain⟨rv,gn,cn,gd,gp,L,E,pl,J⟩:=C.o.lies;obtain⟨k0,bq,b1,bk,bn,bg,br,bp⟩:=sZ J.row;have z:=Lib.hid J;obtain⟨y,N⟩:=zD (x.gone++nzF (X.P.take j));have ah:Hid (y.length<=908):=(by show _<=_;rw[<-N.o,zl];have G:=iG (X.P.take j);rw[zi]at G;have:=HG.o;omega);obtain⟨i0,aw,ak,az,ap⟩:=xp jz;have bc:=Lib.hid aw;have aD:=Lib.hid ak;have a9:=Lib.hid az;have aK:=Lib.hid ap;have aE:Hid (wr.ownsRow w0 3 1 L y.length (ints y)):=(by rw[<-N.o];exact J.gone);have bd:=Lib.hid (fun o=>th aE.o ((xW wr wr).alloc zL o));have a6:Hid (w0.heap.size<=wr.heap.size):=(by have G:=C.o.new gt C.o.self;have h2:=xL J.row;show _<=_;omega);have aF:Hid (∀v:World,(wr.alloc (.cells #[p] 3)).grownBy v L.ownBlock->yK (fun r=>L.ownBlock=some r) wr v/\v.heap[gt]?=wr.heap[gt]?):=fun v bf=>(by have k1:yK (fun r=>L.ownBlock=some r) (wr.alloc (.cells #[p] 3)) v:=yK.grown bf fun r hr=>hr;have k2:yK (fun r=>L.ownBlock=some r) wr v:=(yK.of_below (zB.alloc zL _)).step k1;refine⟨k2,k2.block gt (xL J.row) fun O=>?_⟩;obtain⟨a7,I⟩:=mI J.gone gt O;exact tj J.row I (by decide) rfl);clear aw ak az ap J;have bH:=ah.o;go_wp2_with (at_builtin;refine wpList_append_lies _ rfl _ _ 49 rfl w0 3 i0 (.int .i64 0) 1 8 lk bc.o aD.o a9.o aK.o rfl (by decide) L y.length (ints y) rfl (bd.o _) ⟨wr.heap.size,0,none⟩ 1 1 [.int .i64 p] rfl rfl (xU (cs:=#[.int .i64 p]) (t:=3) (fr:=(0,0)) (zT wr _)) (by simp[Value.oneCell']) (by omega) (by unfold maxLen;omega) (by omega) (by have:=a6.o;simp;omega) _ rfl ?_;intro S f v D Y aY bu;have B:=aF.o v Y;have ba:v.frozen? (gt,197)=false:=zF (B.2.trans z.o.row);have aP:v.cell? (gt,197)=some L:=(sZ (B.2.trans z.o.row)).2.2.2.2.2.1)
    go_roundw;case rel=>
     refine⟨j+1,by omega,by go_num,?_⟩;have aN:yK (fun r=>r=gt\/L.ownBlock=some r) wr (v.setCell (gt,197) (S,0,(y.length+1),f)):=(B.1.mono fun i _ hi=>zu hi).step (yK.setCell (p:=⟨gt,197,none⟩) (zt rfl) _);have Q:y.length=(x.gone++nzF (X.P.take j)).length:=(by rw[N.o]);have al:S≠gt:=fun O=>(by subst O;have h5:=B.2.trans z.o.row;obtain⟨a7,I⟩:=mI D S rfl;exact tj h5 I (by decide) rfl);have av:(v.setCell (gt,197) (S,0,(y.length+1),f)).heap[gt]?=some (.cells (txR (gf,()) x.fo rv (.slice (some ⟨gn,0,none⟩) 32 cn) (.map (some gd)) (.map (some gp)) (S,0,(y.length+1),f) x.full x.fake) 150):=(by rw[<-hV];exact zX _ _ 197 _ _ _ (B.2.trans z.o.row));have bb:ints y++[Value.int .i64 p]=ints (y++[p]):=(by simp[ints]);have aq:=z.o.addGone C.o p S f aN (by rw[<-Q];exact av) (by show World.ownsRow _ _ _ _ _ ((x.gone++nzF (X.P.take j)).length+1) (ints ((x.gone++nzF (X.P.take j))++[p]));rw[N.o,<-bb];have a4:yK (fun r=>r=gt) v (v.setCell (gt,197) (S,0,(y.length+1),f)):=yK.setCell (F:=fun r=>r=gt) (p:=⟨gt,197,none⟩) rfl _;exact uV D fun b hb=>a4.block b (D.lt b hb).2 (fun O=>al (by have e:S=b:=(by simpa[Value.ownBlock]using hb);rw[e];exact O))) (aY.imp id fun h=>by rw[h];simp) (by rw[<-Q];have:=ah.o;omega);obtain⟨T2,s1,s2,s3,s4⟩:=aq;have e2:({x with gone:=(x.gone++nzF (X.P.take j))++[p]}:Tx)={x with gone:=x.gone++nzF (X.P.take (j+1))}:=(by rw[U.o,be,zU]);rw[<-e2];refine⟨T2,s1,fun i hi=>?_,d.o.2.1.trans s3 d.o.1,fun i hi=>s4 i (d.o.2.2 i hi)⟩;rcases s2 i hi with G|G
     .exact d.o.1 i G
     .exact zu (zr d.o.2.1.size G)
    case measure=>simp[intOf];omega
  .obtain rfl:j=n:=(by omega);have d1:¬(j:Int)<(j:Int):=(by omega);have d2:decide ((j:Int)<(j:Int))=false:=zK d1;have aG:Hid (nzF (X.P.take j)=nzF X.P):=(by show _=_;rw[zv (by rw[M.o];exact zL)]);have R:=lI C.o i hi zN none 0 0 (fun w' _=>⟨rfl,zt ⟨rfl,_,_,rfl⟩⟩) hd;have a0:=Lib.hid R;clear R t1 t2 t3 t4;go_wp2_with fail
   refine a0.o.mono ?_;rintro e w7 ⟨rfl,d7⟩;have aQ:=Lib.hid d7;clear d7;go_wp2;refine⟨rfl,.tuple #[],(by simp[results,jP,go_sem]),rfl,?_⟩;obtain⟨T2,s1,s2,s3,s4⟩:=aQ.o;have e2:({x with gone:=x.gone++nzF (X.P.take j),nodes:=x.nodes.set i zN,dirty:=putZ x.dirty ((i:Int)+1) (.bool true)}:Tx)={x with gone:=x.gone++nzF X.P,nodes:=x.nodes.set i zN,dirty:=putZ x.dirty ((i:Int)+1) (.bool true)}:=(by rw[aG.o]);have a1:yK T w2 w7:=d.o.2.1.trans s3 d.o.1;rw[<-e2];refine⟨T2,s1,fun r hr=>?_,(yK.of_below Z.o).trans a1 (fun r hr=>zt hr),fun r hr=>s4 r (d.o.2.2 r hr)⟩;rcases s2 r hr with G|G
   .rcases d.o.1 r G with h2|h2
    .exact zt h2
    .exact zu (zr Z.o.size h2)
   .exact zu (zr Z.o.size (zr d.o.2.1.size G))
theorem vS.after {x y:Tx} (h:TxAt w B F gt fp x T) (j:Below w w w1) (k:vS B F gt fp y T w1 w2):vS B F gt fp y T w w2:=by
 obtain⟨g,f,e,c,d⟩:=k;refine⟨g,f,fun i b=>?_,(yK.of_below j).trans c fun i b=>zt b,d⟩;rcases e i b with a|a
 .exact zt a
 .exact zu (zr j.size a)
theorem vS.join {T1:Nat->Prop} {y:Tx} (h:∀i,T1 i->T i\/w.heap.size<=i) (j:yK T w w1) (k:∀i,T i->T1 i) (l:vS B F gt fp y T1 w1 w2):vS B F gt fp y T w w2:=by
 obtain⟨g,f,e,c,d⟩:=l;refine⟨g,f,fun i b=>?_,j.trans c h,fun i b=>d i (k i b)⟩;rcases e i b with a|a
 .exact h i a
 .exact zu (zr j.size a)
def Tx.freeX (x:Tx) (s:Fs) (i:Nat) (X:Pn):Tx:=
 if 0<X.l\/0<(getZ s.held ((i:Int)+1)).getD 0 then x else {x with gone:=x.gone++nzF X.P,nodes:=x.nodes.set i zN,dirty:=putZ x.dirty ((i:Int)+1) (.bool true)}
theorem Sd {x:Tx} (n:FsAt w0 gf s F1 a) (o:Below w0 w0 w) (h:TxAt w w0 F gt (gf,()) x T) (p:∀i,F i->i<w.heap.size)
 (i:Nat) (j:i<32) (X:Pn) (k:x.nodes[i]?=some X) (t:0<=X.l) (u:0<=(getZ s.held ((i:Int)+1)).getD 0) (m:X.P.length<=8) (q:x.gone.length<=900) (r:x.dirty.length<900):
 Calls prog 56 #[(gt,()),.int .i64 ((i:Int)+1)] w
  (fun e w'=>e=.returned (.tuple #[])/\vS w0 F gt (gf,()) (x.freeX s i X) T w w'):=by
 unfold Tx.freeX;by_cases f:0<X.l
 .rw[ze (zt f)];exact (OL h i j X k f).mono fun e w' ⟨b,c⟩=>⟨b,vS.same h c⟩
 .by_cases d:0<(getZ s.held ((i:Int)+1)).getD 0
  .rw[ze (zu d)];exact (M5 n o h i j X k (by omega) d).mono fun e w' ⟨b,c⟩=>⟨b,vS.same h c⟩
  .rw[zb (fun g=>g.elim f d)];exact Um n o h p i j X k (by omega) (by omega) m q r
theorem Sf {x:Tx} (hf:FsAt w0 gf s F1 a) (hb:Below w0 w0 w) (h:TxAt w w0 F gt (gf,()) x T) (hF:∀i,F i->i<w.heap.size)
 (i:Nat) (hi:i<32) (X:Pn) (hX:x.nodes[i]?=some X) (hl:0<X.l/\X.l<=200) (hh:0<=(getZ s.held ((i:Int)+1)).getD 0) (ab:X.P.length<=8) (hg:x.gone.length<=900) (hd:x.dirty.length<890) (y:Tx)
 (hy:y=({x with nodes:=x.nodes.set i {X with l:=X.l-1},dirty:=putZ x.dirty ((i:Int)+1) (.bool true)}:Tx).freeX s i {X with l:=X.l-1}):
 Calls prog 112 #[(gt,()),.int .i64 ((i:Int)+1)] w
  (fun e w'=>e=.returned (.tuple #[])/\vS w0 F gt (gf,()) y T w w'):=by
 have H:=Lib.hid h;have HF:=Lib.hid hf;have V:=Lib.hid hb;have E:=Lib.hid hF;have B:=Lib.hid (mp h i hi X hX);have t:Hid (x.nodes.length=32):=h.len;have M:=Lib.hid ab;have HG:=Lib.hid hg;have D:=Lib.hid hd;have Y:=Lib.hid hy;obtain⟨l,Hl⟩:=zD X.l;rw[Hl.o]at B hl Y;have iw:=zW (l-1);have ag:=Lib.hid hl;clear h hf hb hF hX hy;go_enter func112,ntmps112;go_wp2_with fail
 refine B.o.mono ?_;rintro e d ⟨q,n,c,rfl,p,C⟩;have z:=Lib.hid C;have I:=Lib.hid p;have f:(d.alloc (.cells #[X.k,X.m,X.u,X.g,X.s,l,X.up,(q,n,c)] 59)).heap[d.heap.size]?=some (.cells #[X.k,X.m,X.u,X.g,X.s,l,X.up,(q,n,c)] 59):=zH;have s5:=(uI f).2.2.2.2.2.1;have z5:(d.alloc (.cells #[X.k,X.m,X.u,X.g,X.s,l,X.up,(q,n,c)] 59)).frozen? (d.heap.size,5)=false:=zF f;have j:(d.alloc (.cells #[X.k,X.m,X.u,X.g,X.s,.int .i64 (l-1),X.up,(q,n,c)] 59)).heap[d.heap.size]?=some (.cells #[X.k,X.m,X.u,X.g,X.s,.int .i64 (l-1),X.up,(q,n,c)] 59):=zH;obtain⟨m0,m1,m2,m3,m4,m5,m6,m7⟩:=uI j;have A:Hid (Below w w (d.alloc (.cells #[X.k,X.m,X.u,X.g,X.s,.int .i64 (l-1),X.up,(q,n,c)] 59))):=z.o.alloc z.o.size _;have Q:=Lib.hid (H.o.below A.o);have b:=lI Q.o i hi {X with l:=l-1} q n c (I.o.below (zB.alloc zL _)) (by have:=D.o;omega);have v:=Lib.hid b;clear b p C f j;go_wp2_with fail
 refine v.o.mono ?_;rintro e w3 ⟨rfl,R⟩;obtain⟨W,L,S,G,U⟩:=vS.after H.o A.o R;have J:Hid ((∀i,W i->T i\/w.heap.size<=i)/\yK T w w3/\∀i,T i->W i):=⟨S,G,U⟩;have ap:=Lib.hid L;have O:(x.nodes.set i {X with l:=l-1})[i]?=some {X with l:=l-1}:=ta (by rw[t.o];exact hi);have K:=Lib.hid (Sd HF.o (V.o.trans (G.to_below H.o.new V.o.size)) L (fun r hr=>zm (E.o r hr) G.size) i hi {X with l:=l-1} O (by show 0<=l-1;omega) hh M.o HG.o (by have h2:=oS ((i:Int)+1) (Value.bool true) x.dirty;have h3:=D.o;show (putZ x.dirty _ _).length<900;omega));clear R L S G U m0 m1 m2 m3 m4 m5 m6 m7 s5 z5;go_wp2_with fail
 refine K.o.mono ?_;rintro e w4 ⟨rfl,Z⟩;have N:=Lib.hid Z;clear Z;go_wp2;refine⟨rfl,.tuple #[],(by simp[results,results112,go_sem]),rfl,?_⟩;rw[Y.o];exact vS.join J.o.1 J.o.2.1 J.o.2.2 N.o
theorem YP {x:Tx} (h:TxAt w B F gt fp x T) (t:FsAt w gf s F1 a) (r:PtR x s p):(secT x s p.toNat).length=64:=by
 by_cases f:p<(s.k:Int)
 .exact Su h t _ (by have:=r.1;omega)
 .obtain⟨q,i,j,m,l,o,E,n,d⟩:=h.lies;have c:=r.2.2.resolve_left f;rw[<-vK r.1]at c;unfold secT;rcases d.secs.get (k:=(p.toNat:Int)) with⟨_,b⟩|⟨v,D,_,b,g⟩
  .rw[b]at c;cases c
  .rw[b];obtain⟨_,_,_,_,e,_⟩:=g;exact e
theorem Ma {x:Tx} (h:TxAt w B F gt fp x T) (b:FsAt w gf s F1 a) (c:PtR x s p):(tE (secT x s) p).length=64:=by
 unfold tE;split
 .exact zR
 .exact YP h b c
theorem Io {N:Nat->List Int} {P:List Int} (h:∀p∈P,(tE N p).length=64):∀j,j<=P.length->(rX N P j).length=64*j
 | 0,_=>rfl
 | j+1,b=>by have a:j<P.length:=b;rw[V5 N P j a,zl,Io h j (by omega),h _ (zz a)];omega
theorem V0 {x:Tx} (h:TxAt w B F gt (gf,()) x T) (hf:FsAt w gf s F1 a) (i:Nat) (hi:i<32) (X:Pn) (hX:x.nodes[i]?=some X)
 (hP:∀p∈X.P,PtR x s p) (ai:X.P.length<=8) (hs:0<=X.s/\X.s<=64*(X.P.length:Int)):
 Calls prog 107 #[(gt,()),.int .i64 ((i:Int)+1)] w
  (fun e w'=>∃v,e=.returned v/\w'.ownsRow w 5 1 v (tc (secT x s) X.P X.s).length (u8s (tc (secT x s) X.P X.s))/\Below w w w'):=by
 have Y:=Lib.hid (mp h i hi X hX);have H:=Lib.hid h;have HF:=Lib.hid hf;have y:Hid (∀p∈X.P,(tE (secT x s) p).length=64):=fun p hp=>Ma h hf (hP p hp);have aI:=Lib.hid hP;obtain⟨n,I⟩:=zD X.P.length;have aK:n<=8:=by rw[<-I.o];exact ai
 rw[I.o]at hs;obtain⟨t,HT⟩:∃t:Nat,Hid (X.s=(t:Int)):=⟨X.s.toNat,by show _=_;omega⟩;have ht:t<=64*n:=by have:=HT.o;omega
 obtain⟨b,ae⟩:=zD (secT x s);have aP:Hid (∀j (hj:j<X.P.length),sB x s X.P j=tE b X.P[j]):=fun j hj=>by unfold sB tE;rw[show X.P.getD j 0=X.P[j] by rw[zh,zf hj];rfl,<-ae.o]
 rw[ae.o]at y ⊢;obtain⟨i0,aj,aa,an,af⟩:=xp jt;have aT:=Lib.hid aj;have aA:=Lib.hid aa;have a1:=Lib.hid an;have aH:=Lib.hid af;clear aj aa an af h hf hX hP ai;go_enter func107,ntmps107;go_wp2_with fail
 refine Y.o.mono ?_;rintro e w1 ⟨q,m,c,rfl,A,aq⟩;have ah:=Lib.hid aq;have aO:=Lib.hid A;have aF:m=n:=by
  have:=A.now.1;obtain⟨_,⟨h0,a0,c0,hv⟩|⟨g,o,c0,hv,_⟩⟩:=A.now
  .injection hv with _ e2 _;have:=I.o;omega
  .injection hv with _ e2 _;have:=I.o;omega
 subst aF;clear aq A Y;go_wp2;obtain⟨gb,W⟩:=zD w1.heap.size;obtain⟨d,C⟩:=zD (w1.alloc (.cells #[X.k,X.m,X.u,X.g,X.s,X.l,X.up,(q,m,c)] 59));have f:Hid (Below w w d):=by show _;rw[<-C.o];exact ah.o.alloc ah.o.size _
 have aD:Hid (d.heap[gb]?=some (.cells #[X.k,X.m,X.u,X.g,X.s,X.l,X.up,(q,m,c)] 59)):=by show _=_;rw[<-C.o,<-W.o];exact zH
 have a3:Hid (vQ d (q,m,c) X.P):=by show _;rw[<-C.o];exact xT.below aO.o.now (zB.alloc zL _)
 rw[C.o,W.o];go_loopw [6,14] (fun o iv wr=>∃j:Nat,j<=m/\iv=.int .i64 j/\Hid (wr.ownsRow d 5 1 o (64*j) (u8s (rX b X.P j)))/\Hid (Below d d wr)) (fun _ iv _=>m-(intOf iv).toNat);case atStart=>exact⟨0,ye _,rfl,yW _ _ _ _,zB⟩
 case round=>
  obtain⟨j,hj,rfl,HO,U⟩:=hrel;have az:=Lib.hid (we U.o aD.o);obtain⟨z0,z1,z2,z3,z4,z5,z6,z7⟩:=uI az.o;by_cases a9:j<m
  .have M:j<X.P.length:=(by rw[I.o];exact a9);have ao:(j:Int)<(m:Int):=(by omega);have z:Hid (Below w w wr):=f.o.trans (U.o.mono f.o.size);have Q:=Lib.hid (LZ (H.o.below z.o) (HF.o.below z.o) X q m c (xT.below a3.o U.o) j (by omega) aI.o (by rw[I.o];exact aK));have aG:Hid (sB x s X.P j=tE b X.P[j]):=aP.o j M;have ab:=Lib.hid (V5 b X.P j M);have D:=Lib.hid (y.o X.P[j] (zz M));rw[aG.o]at Q;obtain⟨bl,aN⟩:∃l:List Int,Hid (tE b X.P[j]=l):=⟨tE b X.P[j],rfl⟩;rw[aN.o]at Q ab D;go_wp2_with fail
   refine Q.o.mono ?_;rintro e w3 ⟨v3,rfl,g3,E,aX,rfl,K,al,R,O⟩;rw[D.o]at K R ⊢;have aB:=Lib.hid (su.cell (_B:=d.heap.size) (_cap:=E) D.o al R);have ad:=Lib.hid (th HO.o O);have S:=Lib.hid O;clear al R O;have bb:j<=8:=(by omega);have aJ:Hid ((u8s bl).length=64):=(by show _=_;rw[vO,D.o]);have a2:=Lib.hid (oR bl);have ay:Hid (d.heap.size<=w3.heap.size):=zr U.o.size S.o.size;go_wp2_with (at_builtin;refine yH _ rfl _ _ 23 rfl d.heap.size 5 i0 (.int .u8 0) 1 1 u8sT aT.o aA.o a1.o aH.o rfl (by decide) _ _ _ rfl ad.o ⟨g3,0,none⟩ 64 E (u8s bl) rfl (by rw[aJ.o]) aB.o a2.o (by unfold maxLen;omega) (by omega) ay.o ?_;intro v5 w5 J r V)
   have a7:Hid (w5.ownsRow d 5 1 v5 (64*(j+1)) (u8s (rX b X.P (j+1)))):=(by show _;rw[ab.o,qh,show 64*(j+1)=64*j+64 by omega];exact J);have aR:Hid (Below d d w5):=xC (Below.step U.o S.o) r (zr U.o.size S.o.size) (fun q hq=>(ad.o.lt q hq).1);clear J r V;go_wp2;go_roundw;case rel=>exact⟨j+1,by omega,by go_num,a7,aR⟩
   case measure=>simp[intOf];omega
  .obtain rfl:j=m:=(by omega);have ao:¬((j:Int)<(j:Int)):=(by omega);rw[HT.o]at z4;obtain⟨L,HL⟩:∃L:Nat,Hid (64*j=L):=⟨_,rfl⟩;rw[HL.o]at HO ht;have aw:Hid (rX b X.P j=X.P.flatMap (tE b)):=(by show _=_;rw[<-I.o];exact JJ b X.P);have am:Hid ((rX b X.P j).length=L):=(by show _=_;rw[<-HL.o];exact Io y.o j (by rw[I.o];exact zL));have G:Hid (tc b X.P X.s=(rX b X.P j).take t):=(by show _=_;unfold tc;rw[<-aw.o,HT.o];rfl);have z:Hid (Below w w wr):=f.o.trans (U.o.mono f.o.size);have av:w.heap.size<=d.heap.size:=f.o.size;obtain⟨au,⟨hv,h0⟩|⟨gq,cq,N,rfl,aC,hh,ba,ap,ac,ak⟩⟩:=id HO.o
   .subst hv;have a8:L=0:=(by have:=am.o;omega);subst a8;obtain rfl:t=0:=(by omega);go_wp2;go_ret;refine⟨_,rfl,?_,z.o⟩;rw[G.o];simp only[xE];exact yW _ _ _ _
   .have HH:=Lib.hid hh;have ax:=Lib.hid ak;have a5:=Lib.hid ap;have aS:=Lib.hid ac;clear hh ak ap ac au;have ag:Hid (wr.ownsRow w 5 1 (gq,0,t,cq) (tc b X.P X.s).length (u8s (tc b X.P X.s))):=(by have Z:((rX b X.P j).take t).length=t:=(by rw[zi,am.o];omega);show _;rw[G.o,Z];refine⟨by rw[vO,Z];omega,zu ⟨gq,cq,N,rfl,zr av aC,HH.o,by omega,a5.o,aS.o,?_⟩⟩;have e2:N.toList.take (t*1)=(N.toList.take (L*1)).take t:=(by rw[vf];congr 1;omega);rw[e2,ax.o,od]);have e1:(t:Int)<=(cq:Int):=(by omega);have e3:t<=cq:=(by omega);go_wp2;go_ret;exact⟨_,rfl,ag.o,z.o⟩
structure lK (x:Tx):Prop where
 f0:256<=x.fake
 f1:x.fake<900000
 g:x.gone.length<=900
 p:x.put.length<800
 d:x.dirty.length<890
structure DirT (x:Tx) (s:Fs) (i:Nat) (X:Pn) (D:List Int):Prop where
 lt:i<32
 nd:x.nodes[i]?=some X
 pts:∀p∈X.P,PtR x s p
 fk:∀p∈X.P,0<=p/\p<=x.fake
 len:X.P.length<=8
 sz:0<=X.s/\X.s<=64*(X.P.length:Int)
 by_:tc (secT x s) X.P X.s=D
 byte:ue D
 ok:sI D=true
theorem Zi {x:Tx} (hf:FsAt w0 gf s F1 a) (hb:Below w0 w0 w) (h:TxAt w w0 F gt (gf,()) x T) (hF:∀i,F i->i<w.heap.size)
 (hr:lK x) (i:Nat) (X:Pn) (D:List Int) (hd:DirT x s i X D) (e:En):
 Calls prog 74 #[(gt,()),.int .i64 ((i:Int)+1),.string e.1,e.2] w
  (fun r w'=>r=.returned (.int .i64 (tC D e))/\vS w0 F gt (gf,()) (if tC D e=0 then x.fillX s.k i X (layD (outD D++[e])) else x) T w w'):=by
 have Q:=Lib.hid (V0 h (hf.below hb) i hd.lt X hd.nd hd.pts hd.len hd.sz);rw[hd.by_]at Q;have H:=Lib.hid h;have O:=Lib.hid hF;have A:=Lib.hid hb;have I:Hid (∀(v:Value) (W:World),tQ W v D->Calls prog 120 #[v,.agg #[.string e.1,e.2]] W (iu D e W)):=fun v W P=>UP v D e W P hd.byte hd.ok;have n:Hid (tC D e=0->∀(v:Value) (W:World),Below w w W->tQ W v (layD (outD D++[e]))->(∀b,v.ownBlock=some b->w.heap.size<=b)->Calls prog 73 #[(gt,()),.int .i64 ((i:Int)+1),v] W
  (fun r w'=>r=.returned (.tuple #[])/\vS w0 F gt (gf,()) (x.fillX s.k i X (layD (outD D++[e]))) T W w')):=fun l v W K P M=>
  hQ hf (A.o.trans (K.mono A.o.size)) (H.o.below K) (fun r hr=>zm (O.o r hr) K.size) i hd.lt X hd.nd v _ P (fun b hb hT=>yb (H.o.fin b hT) (xM (M b hb))) (by have V:=VD hd.ok l;have h2:=Zh V;have h3:=(rZ _).1 V;omega) hd.len hd.fk ⟨hr.f0,hr.f1⟩ hr.g hr.p (by have:=hr.d;omega)
 obtain⟨D',t⟩:=zD (layD (outD D++[e]));obtain⟨y,Z⟩:=zD (x.fillX s.k i X D');rw[t.o,Z.o]at n;obtain⟨z,C⟩:=zD (tC D e);rw[t.o,Z.o,C.o];rw[C.o]at n;clear hf hb h hF hr hd;go_enter func74,ntmps74;go_wp2_with fail
 refine Q.o.mono ?_;rintro r S ⟨Y,rfl,m,E⟩;have q:=Lib.hid E;have N:Hid (tQ S Y D):=⟨xT.of_owns m,lL m⟩;clear m E Q;go_wp2_with fail
 refine (I.o Y S N.o).mono ?_;rintro r R (⟨l,v2,rfl,j,B,c⟩|⟨l,rfl,c⟩)
 .obtain rfl:z=0:=by rw[<-C.o];exact l
  rw[t.o]at j;have L:=Lib.hid j;have f:Hid (Below w w R):=Below.step q.o c;have J:Hid (∀b,v2.ownBlock=some b->w.heap.size<=b):=fun b hb=>zr q.o.size (B b hb);clear j c B l;go_wp2_with fail
  refine (n.o trivial v2 R f.o L.o J.o).mono ?_;rintro r w3 ⟨rfl,u⟩;have G:=Lib.hid (vS.after H.o f.o u);clear u;go_wp2;go_ret;exact⟨rfl,G.o⟩
 .have f:Hid (Below w w R):=Below.step q.o c;have U:¬z=0:=by rw[<-C.o];exact l
  have b1:(z==0)=false:=by simpa using U
  have ab:=Lib.hid U;rw[C.o];clear c l;go_wp2;go_ret;exact⟨rfl,vS.same H.o f.o⟩
theorem Lr {l:List En} {name:ByteArray} (g:(l.map (·.1)).Nodup) (i:Nat) (h:i<l.length) (j:name=l[i].1):l.eraseIdx i=l.filter fun y=>decide (name≠y.1):=by
 induction l generalizing i with
 | nil=>simp at h
 | cons a l e=>
  rw[yI,vY]at g;cases i with
  | zero=>
   have b:name=a.1:=j;rw[List.eraseIdx_cons_zero,vy,zb (by simp[b])];refine (uM.2 fun y f=>?_).symm;rw[yJ];exact fun d=>g.1 (zV.2 ⟨y,f,by rw[<-d,b]⟩)
  | succ i=>
   have c:i<l.length:=(by simpa using h);have b:name=l[i].1:=(by simpa using j);rw[List.eraseIdx_cons_succ,vy,ze (by rw[yJ];exact fun d=>g.1 (zV.2 ⟨l[i],zz c,by rw[<-b,d]⟩)),e g.2 i c b]
def pg (D:List Int) (name:ByteArray):List En:=(outD D).filter fun y=>decide (name≠y.1)
def hasE (D:List Int) (name:ByteArray):Bool:=(outD D).any fun y=>decide (name=y.1)
theorem QA {x:Tx} (hf:FsAt w0 gf s F1 a) (hb:Below w0 w0 w) (h:TxAt w w0 F gt (gf,()) x T) (hF:∀i,F i->i<w.heap.size)
 (hr:lK x) (i:Nat) (X:Pn) (D:List Int) (hd:DirT x s i X D) (name:ByteArray):
 Calls prog 111 #[(gt,()),.int .i64 ((i:Int)+1),.string name] w
  (fun r w'=>r=.returned (.tuple #[])/\vS w0 F gt (gf,()) (if hasE D name=true then x.fillX s.k i X (layD (pg D name)) else x) T w w'):=by
 have V:=Lib.hid (V0 h (hf.below hb) i hd.lt X hd.nd hd.pts hd.len hd.sz);rw[hd.by_]at V;have H:=Lib.hid h;have S:=Lib.hid hF;have C:=Lib.hid hb;obtain⟨K,B,_⟩:=lr hd.ok;have u:Hid (∀(v:Value) (W:World),tQ W v D->Calls prog 151 #[v,.string name] W (fun e w'=>(hasE D name=false/\e=.returned (.tuple #[.slice none 0 0,(4:Int)])/\Below W W w')\/(hasE D name=true/\jv (pg D name) W e w'))):=fun v W U=>(US v D name W U hd.byte hd.ok).mono fun r w' hr=>by
  rcases hr with⟨L,t⟩|⟨j,hj,J,t⟩
  .exact zt ⟨by unfold hasE;rw[tb];intro y hy;rw[L y hy];decide,t⟩
  .refine zu ⟨by unfold hasE;exact xX.2 ⟨_,zz hj,J⟩,?_⟩;rw[Lr K.nodup j hj (by simpa using J)]at t;exact t
 have E:Hid (∀(v:Value) (W:World),Below w w W->tQ W v (layD (pg D name))->(∀b,v.ownBlock=some b->w.heap.size<=b)->Calls prog 73 #[(gt,()),.int .i64 ((i:Int)+1),v] W
  (fun r w'=>r=.returned (.tuple #[])/\vS w0 F gt (gf,()) (x.fillX s.k i X (layD (pg D name))) T W w')):=fun v W O U Q=>
  hQ hf (C.o.trans (O.mono C.o.size)) (H.o.below O) (fun r hr=>zm (S.o r hr) O.size) i hd.lt X hd.nd v _ U (fun b hb hT=>yb (H.o.fin b hT) (xM (Q b hb))) (by have h1:=(rZ _).1 B;have t:(pg D name).length<=(outD D).length:=vd _ _;have h3:tW (pg D name)=0:=(rZ _).2 ⟨by omega,fun x hx=>h1.2.1 x ((vt.1 hx).1),h1.2.2.sublist ((List.filter_sublist).map _)⟩;rw[Zh h3];omega) hd.len hd.fk ⟨hr.f0,hr.f1⟩ hr.g hr.p (by have:=hr.d;omega)
 obtain⟨D',q⟩:=zD (layD (pg D name));obtain⟨y,HY⟩:=zD (x.fillX s.k i X D');obtain⟨z,HZ⟩:=zD (hasE D name);rw[q.o,HY.o]at E;rw[q.o,HY.o,HZ.o];rw[HZ.o]at u;clear hf hb h hF hr hd K B;go_enter func111,ntmps111;go_wp2_with fail
 refine V.o.mono ?_;rintro r Z ⟨v1,rfl,m,I⟩;have n:=Lib.hid I;have R:Hid (tQ Z v1 D):=⟨xT.of_owns m,lL m⟩;clear m I V;go_wp2_with fail
 refine (u.o v1 Z R.o).mono ?_;rintro r Y (⟨rfl,rfl,c⟩|⟨rfl,v2,rfl,l,G,c⟩)
 .have f:Hid (Below w w Y):=Below.step n.o c;clear c;go_wp2;exact⟨rfl,.tuple #[],(by simp[results,results111,go_sem]),rfl,vS.same H.o f.o⟩
 .rw[q.o]at l;have P:=Lib.hid l;have f:Hid (Below w w Y):=Below.step n.o c;have N:Hid (∀b,v2.ownBlock=some b->w.heap.size<=b):=fun b hb=>zr n.o.size (G b hb);clear l c G;go_wp2_with fail
  refine (E.o v2 Y f.o P.o N.o).mono ?_;rintro r w3 ⟨rfl,A⟩;have M:=Lib.hid (vS.after H.o f.o A);clear A;go_wp2;exact⟨rfl,.tuple #[],(by simp[results,results111,go_sem]),rfl,M.o⟩
def fitQ (s:Fs) (x:Tx) (r:Int×Int):Bool:=decide (mayQ s.rows r.1 (so s.nodes r.1 32) ((so x.nodes r.1 32:Int)-(so s.nodes r.1 32:Int))=0)
def jc (s:Fs) (x:Tx):Bool:=s.rows.all (fitQ s x)
theorem Se {x:Tx} (h:TxAt w B F gt (gf,()) x T) (hf:FsAt w gf s F1 a) (hs:∀X∈s.nodes,X.P.length<=8) (hx:∀X∈x.nodes,X.P.length<=8):
 Calls prog 83 #[(gt,())] w (fun e w'=>e=.returned (.bool (jc s x))/\Below w w w'):=by
 have HF:=Lib.hid hf;obtain⟨rv,gn,U,gd,gp,gv,E,pl,V⟩:=h.lies;obtain⟨c0,_,t,_⟩:=sZ V.row;have D:gt<w.heap.size:=xL V.row;obtain⟨nv,E',n1,n2,n3⟩:=Rt hf;obtain⟨⟨gl,aU,aR,bt,bh,E2,tl,FD,f1,f2,f3,f4,f5,f6,f7,_⟩,_,q,_⟩:=hf;obtain⟨_,_,i,_⟩:=nu f1;have Y:gf<w.heap.size:=xL f1;have a7:=Lib.hid f7.now;obtain⟨ar,J,al,N⟩:=Zu f7.now;subst al;have ay:=Lib.hid N;obtain⟨n,G⟩:=zD s.rows.length;have aL:n<=20:=by rw[<-G.o];exact HF.o.rows
 have au:Hid (∀(W:World) (u:Int),Below w w W->Calls prog 126 #[nv,u] W fun e w'=>e=.returned (.int .i64 (so s.nodes u 32:Int))/\Below W W w'):=fun W u f=>JB (n2.below f) (n3.keep (yK.of_below f)) q hs u;have az:Hid (∀(W:World) (u:Int),Below w w W->Calls prog 126 #[.slice (some ⟨gn,0,none⟩) 32 U,u] W fun e w'=>e=.returned (.int .i64 (so x.nodes u 32:Int))/\Below W W w'):=fun W u f=>JB (by rw[h.len];exact (xT.of_owns V.own).below f) (V.nds.keep (yK.of_below f)) h.len hx u;have HM:Hid (∀(W:World) (u:Int),Below w w W->Calls prog 127 #[(ar,n,J),u,.int .i64 (so s.nodes u 32:Int),.int .i64 ((so x.nodes u 32:Int)-(so s.nodes u 32:Int))] W fun e w'=>e=.returned (.int .i64 (mayQ s.rows u (so s.nodes u 32) ((so x.nodes u 32:Int)-(so s.nodes u 32:Int))))/\Below W W w'):=fun W u f=>by have h1:=Zd hs u 32;have h2:=Zd hx u 32;have:=U1 (ar,s.rows.length,J) s.rows u (so s.nodes u 32) ((so x.nodes u 32:Int)-(so s.nodes u 32:Int)) W (a7.o.below f) (by rw[G.o];omega) (by omega) (by omega) (by omega) (by omega);rw[G.o]at this;exact this
 have L:Hid (∀u,(so s.nodes u 32<=256)/\so x.nodes u 32<=256):=fun u=>⟨Zd hs u 32,Zd hx u 32⟩;rw[G.o]at i;have HC:Hid (w.cell? (gt,0)=some (.pointer (some ⟨gf,0,none⟩))/\w.cell? (gt,194)=some (.slice (some ⟨gn,0,none⟩) 32 U)/\w.cell? (gf,194)=some (.slice ar n J)/\w.cell? (gf,195)=some nv):=⟨c0,t,i,n1⟩;clear h V hs hx f1 f2 f3 f4 f5 f6 f7 n2 n3 N t n1 q;go_enter func83,ntmps83;go_wp2;clear c0 i;go_loopw [14] (fun iv wr=>∃j:Nat,j<=n/\iv=.int .i64 (j:Int)/\Hid ((s.rows.take j).all (fitQ s x)=true)/\Hid (Below w w wr)) (fun iv _=>n-(intOf iv).toNat);case atStart=>exact⟨0,ye _,rfl,rfl,zB⟩
 case round=>
  obtain⟨j,hj,rfl,HA,Z⟩:=hrel;by_cases ax:j<n
  .have ae:(j:Int)<(n:Int):=(by omega);obtain⟨g,o,rfl,hg,hc⟩:=ay.o (by rw[G.o];omega);have A:j<s.rows.length:=(by rw[G.o];exact ax);obtain⟨r0,r1⟩:=hc j A;obtain⟨u,l,Hr⟩:∃u l,Hid (s.rows[j]=(u,l)):=⟨s.rows[j].1,s.rows[j].2,Lib.hid rfl⟩;rw[Hr.o]at r0 r1;have an:Hid ((s.rows.take (j+1)).all (fitQ s x)=fitQ s x (u,l)):=(by show _=_;rw[hY _ _ _ (zf A),List.all_append,HA.o,uq,Hr.o];simp);have y0:wr.cell? (g,o+j*2)=some (.int .i64 u):=(Z.o.cell (p:=⟨g,o+j*2,none⟩) hg).trans r0;have y1:wr.cell? (g,o+j*2+1)=some (.int .i64 l):=(Z.o.cell (p:=⟨g,o+j*2+1,none⟩) hg).trans r1;clear hc r0 r1;go_wp2_with fail
   obtain⟨W1,H⟩:=zD (wr.alloc (.cells #[u,l] 176));have c:Hid (Below w w W1):=(by show _;rw[<-H.o];exact Z.o.alloc Z.o.size _);obtain⟨gr,K⟩:=zD wr.heap.size;have C:W1.heap[gr]?=some (.cells #[u,l] 176):=(by rw[<-H.o,<-K.o];exact zH);have M:W1.cell? (gr,0)=some (.int .i64 u):=zC C;have p0:W1.cell? (gt,0)=some (.pointer (some ⟨gf,0,none⟩)):=(c.o.cell (p:=⟨gt,0,none⟩) D).trans HC.o.1;have p1:W1.cell? (gf,195)=some nv:=(c.o.cell (p:=⟨gf,195,none⟩) Y).trans HC.o.2.2.2;have km:=cell_regrown M;have k0:=cell_regrown p0;have k1:=cell_regrown p1;have Q:=Lib.hid C;clear y0 y1 C M p0 p1;rw[H.o,K.o];refine wp_region_quiet_below (by kernel_rfl) (by kernel_rfl) ?_
   repeat (first
    | go_big_quiet_skip
    | (refine qD 126 #[.tmp 24,.tmp 26] #[97,3] rfl rfl (fun _ _=>by kernel_rfl) #[nv,u] (by kernel_rfl) (.int .i64 (so s.nodes u 32:Int)) (fun _ _=>qk) (fun w' S=>au.o w' u (c.o.trans ((sL S).mono c.o.size))) ?_;simp only[Act.put,zM,yj,yh])
    | (go_big_quiet_want;go_big_quiet_op;go_big_quiet_on))
   refine vq ?_;intro w2 y;have b:=Lib.hid (c.o.trans ((sL y).mono c.o.size));have M:w2.cell? (gr,0)=some (.int .i64 u):=(zC (we (sL y) Q.o));have p0:w2.cell? (gt,0)=some (.pointer (some ⟨gf,0,none⟩)):=(b.o.cell (p:=⟨gt,0,none⟩) D).trans HC.o.1;have p1:w2.cell? (gf,194)=some (.slice (some (g,o)) n J):=(b.o.cell (p:=⟨gf,194,none⟩) Y).trans HC.o.2.2.1;have p2:w2.cell? (gt,194)=some (.slice (some ⟨gn,0,none⟩) 32 U):=(b.o.cell (p:=⟨gt,194,none⟩) D).trans HC.o.2.1;have aw:=cell_regrown M;have a0:=cell_regrown p0;have aA:=cell_regrown p1;have aq:=cell_regrown p2;clear km k0 k1 y M p0 p1 p2;obtain⟨r,k⟩:∃z:Nat,Hid (so s.nodes u 32=z):=⟨_,Lib.hid rfl⟩;obtain⟨I,m⟩:∃z:Nat,Hid (so x.nodes u 32=z):=⟨_,Lib.hid rfl⟩;obtain⟨z,HZ⟩:=zD (mayQ s.rows u r ((I:Int)-(r:Int)));have v:fitQ s x (u,l)=decide (z=0):=(by unfold fitQ;rw[k.o,m.o,HZ.o]);have ad:=Lib.hid v;have hm:=HM.o;have iw:IntKind.i64.wrap ((I:Int)-(r:Int))=(I:Int)-(r:Int):=zQ _ (by have h1:=(L.o u).1;have h2:=(L.o u).2;rw[k.o]at h1;rw[m.o]at h2;omega);have a8:Hid (∀W:World,Below w w W->Calls prog 127 #[(g,o,n,J),u,r,.int .i64 ((I:Int)-(r:Int))] W fun e w'=>e=.returned z/\Below W W w'):=fun W f=>(by have:=hm W u f;rw[k.o,m.o,HZ.o]at this;exact this);have ah:Hid (∀W:World,Below w w W->Calls prog 126 #[.slice (some ⟨gn,0,none⟩) 32 U,u] W fun e w'=>e=.returned I/\Below W W w'):=fun W f=>(by have:=az.o W u f;rw[m.o]at this;exact this);rw[k.o];clear hm v;go_wp2_with fail
   refine wp_region_quiet_below (by kernel_rfl) (by kernel_rfl) ?_
   repeat (first
    | go_big_quiet_skip
    | (refine qD 126 #[.tmp 41,.tmp 43] #[97,3] rfl rfl (fun _ _=>by kernel_rfl) #[.slice (some ⟨gn,0,none⟩) 32 U,u] (by kernel_rfl) (.int .i64 (I:Int)) (fun _ _=>qk) (fun w' S=>ah.o w' (b.o.trans ((sL S).mono b.o.size))) ?_;simp only[Act.put,zM,yj,yh])
    | (refine qD 127 #[.tmp 34,.tmp 36,.tmp 37,.tmp 46] #[96,3,3,3] rfl rfl (fun _ _=>by kernel_rfl) #[(g,o,n,J),u,r,.int .i64 ((I:Int)-(r:Int))] (by kernel_rfl) (.int .i64 z) (fun _ _=>qk) (fun w' S=>a8.o w' (b.o.trans ((sL S).mono b.o.size))) ?_;simp only[Act.put,zM,yj,yh])
    | (go_big_quiet_want;go_big_quiet_op;go_big_quiet_on))
   refine vq ?_;intro w3 O;have R:=Lib.hid (b.o.trans ((sL O).mono b.o.size));clear aw a0 aA aq O;by_cases hz:z=0
   .subst hz;have a5:Hid ((s.rows.take (j+1)).all (fitQ s x)=true):=(by show _=_;rw[an.o,ad.o];rfl);go_wp2;go_roundw;case rel=>exact⟨j+1,by omega,by go_num,a5,R⟩
    case measure=>simp[intOf];omega
   .have b0:(z==0)=false:=(by simpa using hz);have b1:(z != 0)=true:=(by simpa using hz);have d:Hid (jc s x=false):=(by show s.rows.all (fitQ s x)=false;rw[List.all_eq_false];refine⟨(u,l),by rw[<-Hr.o];exact zz A,?_⟩;rw[ad.o];simpa using hz);go_wp2;go_ret;exact⟨by rw[d.o];rfl,R.o⟩
  .obtain rfl:j=n:=(by omega);have ae:¬(j:Int)<(j:Int):=(by omega);have d:Hid (jc s x=true):=by
    show s.rows.all (fitQ s x)=true;have:=HA.o
    rwa [zv (vM G.o)]at this
   go_wp2;go_ret;exact⟨by rw[d.o];rfl,Z.o⟩
