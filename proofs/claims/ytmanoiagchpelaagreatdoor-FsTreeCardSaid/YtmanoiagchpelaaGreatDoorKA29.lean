import Derived.Test.YtmanoiagchpelaaGreatDoorKA28
set_option maxHeartbeats 0
set_option linter.all false
set_option maxRecDepth 100000
namespace Go.Proofs.YtmanoiagchpelaaGreatDoor
open Go.Proofs.Tryz Go.RowKit
variable {B gf gt:Nat} {E:List Nd} {F F1 G T:Nat->Prop} {L:List Pn} {a:Addr} {fp v:Value} {p:Int} {s:Fs} {w w0 w1 w2:World}
theorem gV (h:FsAt w gf s F a) (n) (T:n<s.k):(secE s n).length=64:=by
 obtain⟨⟨r,C,I,S,O,E,t,R,y,e,K,x,A,M,z,J,N,i,c,j,d,f,l,m,g⟩,P,Q,B,H,G,L,u⟩:=h;unfold secE;rcases c.sec.get (k:=(n:Int)) with⟨o,b⟩|⟨v,D,o,b,q⟩
 .rw[b];exact mI e.lens.2 T
 .rw[b];obtain⟨_,_,_,_,p,_⟩:=q;exact p
theorem Rl {x:Tx} (h:TxAt w B F gt fp x T) (q:FsAt w gf s F1 a) (n) (r:n<s.k):(secT x s n).length=64:=by
 obtain⟨p,g,i,l,j,o,E,m,d⟩:=h.lies;unfold secT;rcases d.secs.get (k:=(n:Int)) with⟨c,b⟩|⟨v,D,c,b,f⟩
 .rw[b];exact gV q n r
 .rw[b];obtain⟨_,_,_,_,e,_⟩:=f;exact e
theorem XK (R:wh w v 8 L.length (uG E)) (Q:tZ G w E L) (S:L.length=32):
 ∃gn on cn,v=.slice (some ⟨gn,on,none⟩) 32 cn/\gn<w.heap.size/\∀(i) (X),L[i]?=some X->∃yq yn yc,
  w.cell? (gn,on+i*8)=some (.int .i64 X.k)/\w.cell? (gn,on+i*8+1)=some (.int .i64 X.m)/\w.cell? (gn,on+i*8+2)=some (.int .i64 X.u)/\w.cell? (gn,on+i*8+3)=some (.int .i64 X.g) /\
  w.cell? (gn,on+i*8+4)=some (.int .i64 X.s)/\w.cell? (gn,on+i*8+5)=some (.int .i64 X.l)/\w.cell? (gn,on+i*8+6)=some (.int .i64 X.up)/\w.cell? (gn,on+i*8+7)=some (.slice yq yn yc) /\
  Out G w (fun w'=>vT w' (yq,yn,yc) X.P):=by
 have e:E.length=32:=by rw[Q.1];exact S
 rw[<-Q.1]at R;obtain⟨O,h,b,A⟩:=jT R;rw[e]at b A;subst b;obtain⟨g,o,rfl,C,N⟩:=A.o (by omega);refine⟨g,o,h,rfl,C,fun i X f=>?_⟩;have c:=(zJ.1 f).1;have a:i<E.length:=by omega
 obtain⟨p,x,t,y,z,q,r,B⟩:=mN N i a;have d:=Q.2 i a c;have n:L[i]=X:=by rw[zh c]at f;injection f
 rw[n]at d;obtain⟨D,F,J,M,K,H,I,j⟩:=d;rw[D]at p;rw[F]at x;rw[J]at t;rw[M]at y;rw[K]at z;rw[H]at q;rw[I]at r;exact⟨_,_,_,p,x,t,y,z,q,r,B,j⟩
def useP (X:Pn) (user:Int):Nat:=if X.k≠0/\X.u=user then mf X.P else 0
def tr (L:List Pn) (user:Int):Nat->Nat
 | 0=>0
 | j+1=>tr L user j+useP (L.getD j zN) user
theorem ZR {L:List Pn} (h:∀X∈L,X.P.length<=8) (user):∀j,tr L user j<=8*j
 | 0=>zL
 | j+1=>by
  have c:=ZR h user j;have b:useP (L.getD j zN) user<=8:=by
   unfold useP;split
   .by_cases a:j<L.length
    .have:=h _ (zx a);have d:=Xk L[j].P;rw[zi,zh a,uK];omega
    .rw[zi,yj (by omega)]
     decide
   .omega
  unfold tr;omega
theorem Jc (hv:wh w v 8 L.length (uG E)) (hE:tZ G w E L) (hl:L.length=32) (hP:∀X∈L,X.P.length<=8) (user):
 Calls prog 61 #[v,.int .i64 user] w (fun e w'=>e=.returned (.int .i64 (tr L user 32))/\Below w w w'):=by
 obtain⟨gn,on,cn,rfl,M,J⟩:=XK hv hE hl;have J:=za J;have D:=za hl;have S:=za hP;have r:=ZR hP user;have H:=za r;clear hv hE hl hP r;go_enter func61,ntmps61;go_wp2;go_loopw [5,10] (fun kv R wr=>∃j:Nat,j<=32/\R=.int .i64 j/\kv=.int .i64 (tr L user j:Int)/\Hid (Below w w wr)) (fun _ R _=>32-(intOf R).toNat);case atStart=>exact⟨0,by omega,rfl,rfl,zB⟩
 case round=>
  obtain⟨j,hj,rfl,rfl,d⟩:=hrel;by_cases h:j<32
  .have O:(j:Int)<32:=(by omega);have F:j<L.length:=(by rw[D.o];exact h);obtain⟨X,HX⟩:∃X,Hid (L[j]?=some X):=⟨_,zh F⟩;have I:Hid (L.getD j zN=X):=(by show _=_;rw[zi,HX.o];rfl);have an:=S.o X (xU HX.o);obtain⟨T,B,C,e0,e1,e2,e3,e4,e5,e6,e7,hI⟩:=J.o j X HX.o;have cc:=fun i=>d.o.cell (p:=⟨gn,i,none⟩) M;rw[<-cc]at e0 e1 e2 e3 e4 e5 e6 e7;have HI:=za (wh.below hI.now d.o);have a:Hid (tr L user (j+1)=tr L user j+useP X user):=(by show _=_;rw[<-I.o];rfl);have Q:=H.o j;obtain⟨U,x⟩:=zD (tr L user j);rw[x.o]at Q ⊢;have ai:¬gn=wr.heap.size:=(by have:=d.o.size;omega);obtain⟨y,Z⟩:=zD X.k;obtain⟨z,A⟩:=zD X.u;rw[Z.o]at e0;rw[A.o]at e2;have c:Hid (Below w w (wr.alloc (.cells #[y,.int .i64 X.m,z,.int .i64 X.g,.int .i64 X.s,.int .i64 X.l,.int .i64 X.up,(T,B,C)] 123))):=d.o.alloc d.o.size _;clear hI cc;by_cases t:y=0
   .subst t;have b:Hid (tr L user (j+1)=U):=(by show _=_;rw[a.o,x.o];unfold useP;rw[zb (by rw[Z.o];simp)];rfl);go_wp2;go_roundw;case rel=>exact⟨j+1,by omega,by go_num,by rw[b.o],c⟩
    case measure=>simp[intOf];omega
   .have b0:(y==0)=false:=(by simpa using t);have b1:(y != 0)=true:=(by simpa using t);by_cases K:z=user
    .subst K;have b:Hid (tr L z (j+1)=U+mf X.P):=(by show _=_;rw[a.o,x.o];unfold useP;rw[ze ⟨by rw[Z.o];exact t,A.o⟩]);have q:=za (Xk X.P);have f:=za (fun (W:World) (hW:Below wr wr W)=>SO y X.m z X.g X.s X.l X.up (T,B,C) X.P W (wh.below HI.o hW) (by omega));obtain⟨V,HV⟩:=zD (mf X.P);rw[HV.o]at f q b;have i1:IntKind.i64.wrap (U+V)=U+V:=zQ _ (by have:=q.o;omega);have Y:Hid (Below wr wr (wr.alloc (.cells #[y,X.m,z,X.g,X.s,X.l,X.up,(T,B,C)] 123))):=zB.alloc zL _;go_wp2_with fail
     refine (f.o _ Y.o).mono ?_;rintro e w2 ⟨rfl,n⟩;have N:=za (zf c.o n);clear n;go_wp2;go_roundw;case rel=>exact⟨j+1,by omega,by go_num,by rw[b.o];go_num,N⟩
     case measure=>simp[intOf];omega
    .have b2:(z==user)=false:=(by simpa using K);have b:Hid (tr L user (j+1)=U):=(by show _=_;rw[a.o,x.o];unfold useP;rw[zb (by rw[A.o];simp[K])];rfl);go_wp2;go_roundw;case rel=>exact⟨j+1,by omega,by go_num,by rw[b.o],c⟩
     case measure=>simp[intOf];omega
  .obtain rfl:j=32:=(by omega);go_wp2;go_ret;exact⟨rfl,d.o⟩
theorem XW (h:FsAt w gf s F a):∃nv E,w.cell? (gf,195)=some nv/\wh w nv 8 s.nodes.length (uG E)/\tZ F w E s.nodes:=by obtain⟨⟨o,y,nv,K,G,E,p,J,k,q,B,t,v,D,u,n,c,g,l,i,d,e,j,m,f⟩,H,I,x,A,z,C,r⟩:=h;obtain⟨_,_,_,b,_,_⟩:=nw k;have:=n.now;rw[c.1]at this;exact⟨nv,E,b,this,c⟩
theorem Sk (h:FsAt w gf s F a):
 Calls prog 293 #[(gf,())] w (fun e w'=>e=.returned s.k/\w=w'):=by
 obtain⟨⟨I,L,M,Q,N,E,K,O,n,m,z,q,t,C,r,y,D,f,j,g,b,c,i,l,d⟩,G,H,u,x,v,B,p⟩:=h;obtain⟨P,_,_,_,_,_⟩:=nw n;have A:=za (mH m);clear n m z q t C r y D f j g b c i l d G H u x v B p;go_enter func293,ntmps293;go_wp2_with fail
 refine A.o.mono ?_;rintro e J ⟨rfl,rfl⟩;go_wp2;go_ret;simp
theorem M5 (h:FsAt w gf s F a) (n) (t:n<s.k):
 Calls prog 294 #[.agg #[(gf,())],.int .i64 n] w (Vp (secE s n) w):=by
 have b:Hid (Below w w (w.alloc (.cells #[(gf,())] 96))):=zB.alloc zL _;have q:=za (KN (h.below b.o) n t);generalize secE s n=D at *
 clear h;go_enter func294,ntmps294;go_wp2_with fail
 refine q.o.mono ?_;rintro e p ⟨v,rfl,g,f,c,j,d,m,i,l⟩;have r:Hid (lF D w v p):=⟨g,f,c,j,⟨zt b.o.size d.1,d.2⟩,m,i,zf b.o l⟩;clear j d m i l;go_wp2;go_ret2;exact⟨v,rfl,r.o⟩
theorem M3 (h:FsAt w gf s F a):
 Calls prog 295 #[.agg #[(gf,())]] w (fun e w'=>e=.returned s.k/\Below w w w'):=by
 have b:Hid (Below w w (w.alloc (.cells #[(gf,())] 96))):=zB.alloc zL _;have c:=za (Sk (h.below b.o));clear h;go_enter func295,ntmps295;go_wp2_with fail
 refine c.o.mono ?_;rintro e d ⟨rfl,rfl⟩;go_wp2;go_ret;exact⟨rfl,b.o⟩
def le (s:Fs):Prop:=∀n,n<s.k->∀x∈secE s n,0<=x/\x<=255
def fsRdr (gf:Nat):Rdr:=⟨96,.agg #[(gf,())],294,295,.agg #[(gf,())],.agg #[(gf,())]⟩
theorem fsRdr1 (gf : Nat) : ∀ W : World, (nilAhead 444 96 (.agg #[.pointer (some ⟨gf, 0, none⟩)]) "Read").run prog W = .ok (some false) W := fun W => by kernel_rfl
theorem fsRdr2 (gf : Nat) : ∀ W : World, (nilAhead 444 96 (.agg #[.pointer (some ⟨gf, 0, none⟩)]) "Size").run prog W = .ok (some false) W := fun W => by kernel_rfl
theorem fsRdr3 (gf : Nat) : ∀ W : World, (method 444 96 (.agg #[.pointer (some ⟨gf, 0, none⟩)]) "Read").run prog W = .ok (294, (.agg #[.pointer (some ⟨gf, 0, none⟩)])) W := fun W => by kernel_rfl
theorem fsRdr4 (gf : Nat) : ∀ W : World, (method 444 96 (.agg #[.pointer (some ⟨gf, 0, none⟩)]) "Size").run prog W = .ok (295, (.agg #[.pointer (some ⟨gf, 0, none⟩)])) W := fun W => by kernel_rfl
theorem fsRdr5 (gf):∀(x) (W),(callFunc 294 #[(.agg #[.pointer (some ⟨gf,0,none⟩)]),x]).run prog W=.ok (.enter 294 #[(.agg #[.pointer (some ⟨gf,0,none⟩)]),x]) W:=fun x W=>by kernel_rfl
theorem fsRdr6 (gf):∀W,(callFunc 295 #[(.agg #[.pointer (some ⟨gf,0,none⟩)])]).run prog W=.ok (.enter 295 #[(.agg #[.pointer (some ⟨gf,0,none⟩)])]) W:=fun W=>by kernel_rfl
theorem Yo (h:FsAt w gf s F a) (d:le s):RdAt w (fsRdr gf) (secE s) s.k:=
 ⟨fsRdr1 gf,fsRdr2 gf,fsRdr3 gf,fsRdr4 gf,fsRdr5 gf,fsRdr6 gf,
  fun _w' b n c=>M5 (h.below b) n c,fun _w' b=>M3 (h.below b),fun n c=>gV h n c,d⟩
def dkRdr (a:Addr):Rdr:=⟨26,.pointer (some a),92,93,.pointer (some a),.pointer (some a)⟩
theorem dkRdr1 (a : Addr) : ∀ W : World, (nilAhead 444 26 (.pointer (some a)) "Read").run prog W = .ok (some false) W := fun W => by kernel_rfl
theorem dkRdr2 (a : Addr) : ∀ W : World, (nilAhead 444 26 (.pointer (some a)) "Size").run prog W = .ok (some false) W := fun W => by kernel_rfl
theorem dkRdr3 (a : Addr) : ∀ W : World, (method 444 26 (.pointer (some a)) "Read").run prog W = .ok (92, (.pointer (some a))) W := fun W => by kernel_rfl
theorem dkRdr4 (a : Addr) : ∀ W : World, (method 444 26 (.pointer (some a)) "Size").run prog W = .ok (93, (.pointer (some a))) W := fun W => by kernel_rfl
theorem dkRdr5 (a):∀(x) (W),(callFunc 92 #[(.pointer (some a)),x]).run prog W=.ok (.enter 92 #[(.pointer (some a)),x]) W:=fun x W=>by kernel_rfl
theorem dkRdr6 (a):∀W,(callFunc 93 #[(.pointer (some a))]).run prog W=.ok (.enter 93 #[(.pointer (some a))]) W:=fun W=>by kernel_rfl
theorem Yv {st:Dk} {k:Nat} (h:uS w (.pointer (some a)) st k F) (f:∀n,n<k->∀x∈sec st.N n,0<=x/\x<=255):RdAt w (dkRdr a) (sec st.N) k:=
 ⟨dkRdr1 a,dkRdr2 a,dkRdr3 a,dkRdr4 a,dkRdr5 a,dkRdr6 a,
  fun _w' b n d=>Zb (h.below b) n d,fun _w' b=>(mH (h.below b)).mono fun _e _w2 ⟨e,c⟩=>⟨e,c▸zB⟩,fun _n d=>mI h.lens.2 d,f⟩
theorem Qm (h:FsAt w gf s F a) (j:le s) (i:lT (secE s) s.fo s.k):
 Calls prog 19 #[(gf,())] w (fun e w'=>e=.returned (.slice none 0 0)/\Below w w w'):=by
 have d:=Lx (Yo h j) h.k1 h.k0 s.fo i;have f:Hid (Calls prog 60 #[.iface 96 (.agg #[(gf,())])] w (fun e w'=>e=.returned (.slice none 0 0)/\Below w w w')):=d;clear h j i;go_enter func19,ntmps19;go_wp2_with fail
 refine f.o.mono ?_;rintro e g ⟨rfl,b⟩;have c:=za b;clear b;go_wp2;go_ret;exact⟨rfl,c.o⟩
def nj (D:List Int) (at0 n:Nat):List Int:=(D.drop at0).take n
theorem Nu {x:Tx} (h:TxAt w B F gt fp x T) (i:Nat) (A:i<32) (X) (y:x.nodes[i]?=some X) (z:0<X.l):
 Calls prog 100 #[(gt,()),.int .i64 (i+1)] w (fun e w'=>e=.returned (.tuple #[])/\Below w w w'):=by
 have d:=za (mr h i A X y);obtain⟨l,r⟩:=zD X.l;rw[r.o]at d z;have t:=ya z;clear h y;go_enter func100,ntmps100;go_wp2_with fail
 refine d.o.mono ?_;rintro e p ⟨q,n,c,rfl,f,a⟩;have b:=za a;have j:Hid (Below w w (p.alloc (.cells #[X.k,X.m,X.u,X.g,X.s,l,X.up,(q,n,c)] 123))):=b.o.alloc b.o.size _;have v:=(uT (zT p (.cells #[X.k,X.m,X.u,X.g,X.s,l,X.up,(q,n,c)] 123))).2.2.2.2.2.1;clear f a;go_wp2;refine⟨rfl,.tuple #[],(by simp[results,kr,go_sem]),rfl,j.o⟩
theorem heldT: prog.underlying 50=some (.map 3 3):=by kernel_rfl
theorem m9 (w):(zeroValue 3).run prog w=.ok (.int .i64 0) w:=(te (P:=prog) (t:=3) (v:=.int .i64 0) (n:=1) (by kernel_rfl)).1 w
theorem LM {x:Tx} (hf:FsAt w0 gf s F1 a) (hb:Below w0 w0 w) (h:TxAt w w0 F gt (gf,()) x T) (i:Nat) (hi:i<32) (X) (hX:x.nodes[i]?=some X) (hl:X.l=0) (hh:0<(getZ s.held (i+1)).getD 0):
 Calls prog 100 #[(gt,()),.int .i64 (i+1)] w (fun e w'=>e=.returned (.tuple #[])/\Below w w w'):=by
 have f:=za (mr h i hi X hX);rw[hl]at f;obtain⟨l,C⟩:=zD ((getZ s.held ((i:Int)+1)).getD 0);have v:Hid (∀W,Below w w W->∃j,W.cell? (gt,0)=some (.pointer (some ⟨gf,0,none⟩))/\W.cell? (gf,197)=some (.map (some j))/\(Instr.lookup 50 (.map (some j)) (.int .i64 (i+1)) false).run prog W=.ok (.int .i64 l) W):=fun W B=>by obtain⟨rv,gn,cn,gd,gp,Z,E,pl,M⟩:=(h.below B).lies;obtain⟨S,_⟩:=rt M.row;obtain⟨⟨U,L,G,bt,j,E',V,FD,K,f2,f3,f4,f5,f6,f7,Y,f9,H,P,N,R,I,y,J,O⟩,_⟩:=(hf.below hb).below B;obtain⟨_,_,_,_,_,p⟩:=nw K;have D:=y.look (k:=(i:Int)+1) intT heldT (m9 W) (by unfold InZ;omega);rw[WV,C.o]at D;exact⟨j,S,p,D⟩
 rw[C.o]at hh;have d1:=ya hh;clear h hX hf hb hl;go_enter func100,ntmps100;go_wp2_with fail
 refine f.o.mono ?_;rintro e z ⟨q,n,c,rfl,t,r⟩;have b:=za r;have d:Hid (Below w w (z.alloc (.cells #[X.k,X.m,X.u,X.g,X.s,(),X.up,(q,n,c)] 123))):=b.o.alloc b.o.size _;have s5:=(uT (zT z (.cells #[X.k,X.m,X.u,X.g,X.s,(),X.up,(q,n,c)] 123))).2.2.2.2.2.1;clear t r;obtain⟨j,y0,A,Q⟩:=v.o _ d.o;go_wp2;refine⟨rfl,.tuple #[],(by simp[results,kr,go_sem]),rfl,d.o⟩
theorem Tg {x:Tx} (hf:FsAt w0 gf s F1 a) (hb:Below w0 w0 w) (h:TxAt w w0 F gt (gf,()) x T) (hF:∀i,F i->i<w.heap.size)
 (i:Nat) (hi:i<32) (X) (hX:x.nodes[i]?=some X) (hl:X.l=0) (hh:(getZ s.held (i+1)).getD 0=0) (an:X.P.length<=8) (hg:x.gone.length<=900) (hd:x.dirty.length<900):
 Calls prog 100 #[(gt,()),.int .i64 (i+1)] w
  (fun e w'=>e=.returned (.tuple #[])/\uc w0 F gt (gf,()) {x with gone:=x.gone++nzF X.P,nodes:=x.nodes.set i zN,dirty:=putZ x.dirty (i+1) (.bool true)} T w w'):=by
 have H:=za h;have HF:=za (hf.below hb);have b4:=za hF;have aJ:=za an;have HG:=za hg;have ah:=za (mr h i hi X hX);rw[hl]at ah;have aO:Hid (∀W,Below w w W->∃bh,W.cell? (gt,0)=some (.pointer (some ⟨gf,0,none⟩))/\W.cell? (gf,197)=some (.map (some bh))/\(Instr.lookup 50 (.map (some bh)) (.int .i64 (i+1)) false).run prog W=.ok (.int .i64 0) W):=fun W hW=>by obtain⟨rv,gn,cn,gd,gp,gv,E,pl,J⟩:=(h.below hW).lies;obtain⟨c0,_⟩:=rt J.row;obtain⟨⟨gl,bK,bH,bt,bh,E',tl,FD,f1,f2,f3,f4,f5,f6,f7,f8,f9,ca,bD,b8,cc,bS,aI,b6,bB⟩,_⟩:=(hf.below hb).below hW;obtain⟨_,_,_,_,_,ar⟩:=nw f1;exact⟨bh,c0,ar,by have h9:=aI.look (k:=(i:Int)+1) intT heldT (m9 W) (by unfold InZ;omega);rw[WV,hh]at h9;exact h9⟩
 clear h hf hF hX hl;go_enter func100,ntmps100;go_wp2_with fail
 refine ah.o.mono ?_;rintro e w1 ⟨q,n,c,rfl,af,ab⟩;have aq:=za ab;have aX:=za af;have K:Hid (Below w w (w1.alloc (.cells #[X.k,X.m,X.u,X.g,X.s,(),X.up,(q,n,c)] 123))):=aq.o.alloc aq.o.size _;have al:Hid ((w1.alloc (.cells #[X.k,X.m,X.u,X.g,X.s,(),X.up,(q,n,c)] 123)).heap[w1.heap.size]?=some (.cells #[X.k,X.m,X.u,X.g,X.s,(),X.up,(q,n,c)] 123)):=zH;have U:Hid (ju (fun i=>F i\/T i) X (w1.alloc (.cells #[X.k,X.m,X.u,X.g,X.s,(),X.up,(q,n,c)] 123)) q n c):=aX.o.below (zB.alloc zL _);have bM:=za ab.size;clear af ab;obtain⟨bh,y0,ax,aA⟩:=aO.o _ K.o;obtain⟨m0,m1,m2,m3,m4,m5,m6,m7⟩:=uT al.o;go_wp2;clear y0 ax aA m0 m1 m2 m3 m4 m5 m6 m7 al;obtain⟨w2,z⟩:=zD (w1.alloc (.cells #[X.k,X.m,X.u,X.g,X.s,(),X.up,(q,n,c)] 123));have L:Hid (X.P.length=n):=by obtain⟨p,cp,hv,_⟩:=Z6 U.o.now;injection hv with e1 e2 e3;exact e2.symm
 have bF:Hid (uc w0 F gt (gf,()) x T w w2):=by rw[<-z.o];exact uc.same H.o K.o
 have aB:Hid (TxAt w2 w0 F gt (gf,()) x T):=by rw[<-z.o];exact H.o.below K.o
 have Y:Hid (Below w w w2):=by rw[<-z.o];exact K.o
 rw[z.o]at U;rw[z.o];have bR:n<=8:=by have D:=L.o;have h2:=aJ.o;omega
 go_loopw [28] (fun iv wr=>∃j:Nat,j<=n/\iv=.int .i64 (j:Int)/\Hid (uc w0 F gt (gf,()) {x with gone:=x.gone++nzF (X.P.take j)} T w2 wr)) (fun iv _=>20-(intOf iv).toNat)
 case atStart=>exact⟨0,ye _,rfl,by
  have:({x with gone:=x.gone++nzF (X.P.take 0)})=x:=by show ({x with gone:=x.gone++[]}:Tx)=x;rw[yX]
  show uc _ _ _ _ _ _ _ _;rw[this];exact uc.same aB.o zB⟩
 case round=>
  obtain⟨j,hj,rfl,am⟩:=hrel;have ij:=zW (j+1) (by omega);obtain⟨T',t1,t2,t3,t4⟩:=id am.o;have B:=za t1;have d:Hid ((∀i,T' i->T i\/w2.heap.size<=i)/\yQ T w2 wr/\∀i,T i->T' i):=⟨t2,t3,t4⟩;by_cases a8:j<n
  .have d1:j<(n:Int):=(by omega);have d2:=ya d1;have hI:=U.o wr (t3.mono fun i _ hi=>zu hi);obtain⟨_,⟨h0,_⟩|⟨gq,oq,cq,hv,N⟩⟩:=hI
   .have:=L.o;omega
   injection hv with e1 e2 e3;subst e1 e3;have a2:j<X.P.length:=(by rw[L.o];exact a8);have a5:wr.cell? (gq,oq+j)=some (.int .i64 X.P[j]):=N j _ (by unfold ints;rw[xF,zh a2];rfl);have ay:nzF (X.P.take (j+1))=nzF (X.P.take j)++nzF [X.P[j]]:=(by rw[<-Vl];congr 1;exact gT _ _ _ (zh a2));have S:=za ay;obtain⟨p,Hp⟩:=zD (X.P[j]);rw[Hp.o]at a5 S;clear ay N t1 t2 t3 t4;by_cases aa:p=0
   .subst aa;go_wp2;go_roundw;case rel=>exact⟨j+1,by omega,by go_num,by show uc _ _ _ _ _ _ _ _;rw[S.o,show nzF [(0:Int)]=[] from rfl,yX];exact am.o⟩
    case measure=>simp[intOf];omega
   .have b0:(p != 0)=true:=(by simpa using aa);have be:nzF [p]=[p]:=(by unfold nzF;simp[aa]);obtain⟨rv,gn,cn,gd,gp,gv,E,pl,J⟩:=B.o.lies;obtain⟨k0,bq,b1,bk,bn,bg,br,bp⟩:=rt J.row;have y:=za J;obtain⟨v,M⟩:=zD (x.gone++nzF (X.P.take j));have ag:Hid (v.length<=908):=(by show _<=_;rw[<-M.o,zm];have D:=iX (X.P.take j);rw[zj]at D;have:=HG.o;omega);obtain⟨i0,av,aj,az,ao⟩:=xy jP;have bc:=za av;have aD:=za aj;have a9:=za az;have aK:=za ao;have aE:Hid (wr.ownsRow w0 3 1 gv v.length (ints v)):=(by rw[<-M.o];exact J.gone);have bd:=za (fun o=>tB aE.o ((x9 wr wr).alloc zL o));have a6:Hid (w0.heap.size<=wr.heap.size):=(by have D:=B.o.new gt B.o.self;have h2:=xR J.row;show _<=_;omega);have aF:Hid (∀G,(wr.alloc (.cells #[p] 3)).grownBy G gv.ownBlock->yQ (fun r=>gv.ownBlock=some r) wr G/\G.heap[gt]?=wr.heap[gt]?):=fun G bf=>(by have k1:=yQ.grown bf fun r Z=>Z;have k2:=(yQ.of_below (zB.alloc zL _)).step k1;refine⟨k2,k2.block gt (xR J.row) fun N=>?_⟩;obtain⟨a7,I⟩:=mO J.gone gt N;exact tC J.row I (by decide) rfl);clear av aj az ao J;have bG:=ag.o;go_wp2_with (at_builtin;refine wpList_append_lies _ rfl _ _ 33 rfl w0 3 i0 (.int .i64 0) 1 8 lB bc.o aD.o a9.o aK.o rfl (by decide) gv v.length (ints v) rfl (bd.o _) ⟨wr.heap.size,0,none⟩ 1 1 [.int .i64 p] rfl rfl (xE (cs:=#[.int .i64 p]) (t:=3) (fr:=(0,0)) (zT wr _)) (by simp[Value.oneCell']) (by omega) (by unfold maxLen;omega) (by omega) (by have:=a6.o;simp;omega) _ rfl ?_;intro R f G C V aY bu;have A:=aF.o G V;have ba:G.frozen? (gt,197)=false:=zF (A.2.trans y.o.row);have aP:=(rt (A.2.trans y.o.row)).2.2.2.2.2.1)
    go_roundw;case rel=>
     refine⟨j+1,by omega,by go_num,?_⟩;have aN:yQ (fun r=>r=gt\/gv.ownBlock=some r) wr (G.setCell (gt,197) (R,0,(v.length+1),f)):=(A.1.mono fun i _ hi=>zu hi).step (yQ.setCell (p:=⟨gt,197,none⟩) (zr rfl) _);have O:v.length=(x.gone++nzF (X.P.take j)).length:=(by rw[M.o]);have ak:R≠gt:=fun N=>(by subst N;have h5:=A.2.trans y.o.row;obtain⟨a7,I⟩:=mO C R rfl;exact tC h5 I (by decide) rfl);have au:(G.setCell (gt,197) (R,0,(v.length+1),f)).heap[gt]?=some (.cells (txR (gf,()) x.fo rv (.slice (some ⟨gn,0,none⟩) 32 cn) (.map (some gd)) (.map (some gp)) (R,0,(v.length+1),f) x.full x.fake) 118):=(by rw[<-gR];exact yb _ _ 197 _ _ _ (A.2.trans y.o.row));have bb:ints v++[Value.int .i64 p]=ints (v++[p]):=(by simp[ints]);have ap:=y.o.addGone B.o p R f aN (by rw[<-O];exact au) (by show World.ownsRow _ _ _ _ _ ((x.gone++nzF (X.P.take j)).length+1) (ints ((x.gone++nzF (X.P.take j))++[p]));rw[M.o,<-bb];have a4:yQ (fun r=>r=gt) G (G.setCell (gt,197) (R,0,(v.length+1),f)):=yQ.setCell (F:=fun r=>r=gt) (p:=⟨gt,197,none⟩) rfl _;exact tw C fun b hb=>a4.block b (C.lt b hb).2 (fun N=>ak (by have e:R=b:=(by simpa[Value.ownBlock]using hb);rw[e];exact N))) (aY.imp id fun h=>by rw[h];simp) (by rw[<-O];have:=ag.o;omega);obtain⟨T2,s1,s2,s3,s4⟩:=ap;have e2:({x with gone:=(x.gone++nzF (X.P.take j))++[p]})={x with gone:=x.gone++nzF (X.P.take (j+1))}:=(by rw[S.o,be,zP]);rw[<-e2];refine⟨T2,s1,fun i hi=>?_,d.o.2.1.trans s3 d.o.1,fun i hi=>s4 i (d.o.2.2 i hi)⟩;rcases s2 i hi with D|D
     .exact d.o.1 i D
     .exact zu (zt d.o.2.1.size D)
    case measure=>simp[intOf];omega
  .obtain rfl:j=n:=(by omega);have d1:¬j<(j:Int):=(by omega);have d2:=zz d1;have aG:Hid (nzF (X.P.take j)=nzF X.P):=(by show _=_;rw[zv (by rw[L.o];exact zL)]);have Q:=lP B.o i hi zN none 0 0 (fun w' _=>⟨rfl,zr ⟨rfl,_,_,rfl⟩⟩) hd;have a0:=za Q;clear Q t1 t2 t3 t4;go_wp2_with fail
   refine a0.o.mono ?_;rintro e w7 ⟨rfl,d7⟩;have aQ:=za d7;clear d7;go_wp2;refine⟨rfl,.tuple #[],(by simp[results,kr,go_sem]),rfl,?_⟩;obtain⟨T2,s1,s2,s3,s4⟩:=aQ.o;have e2:({x with gone:=x.gone++nzF (X.P.take j),nodes:=x.nodes.set i zN,dirty:=putZ x.dirty (i+1) (.bool true)})={x with gone:=x.gone++nzF X.P,nodes:=x.nodes.set i zN,dirty:=putZ x.dirty (i+1) (.bool true)}:=(by rw[aG.o]);have a1:=d.o.2.1.trans s3 d.o.1;rw[<-e2];refine⟨T2,s1,fun r Z=>?_,(yQ.of_below Y.o).trans a1 (fun r Z=>zr Z),fun r Z=>s4 r (d.o.2.2 r Z)⟩;rcases s2 r Z with D|D
   .rcases d.o.1 r D with h2|h2
    .exact zr h2
    .exact zu (zt Y.o.size h2)
   .exact zu (zt Y.o.size (zt d.o.2.1.size D))
theorem uc.after {x y:Tx} (h:TxAt w B F gt fp x T) (j:Below w w w1) (k:uc B F gt fp y T w1 w2):uc B F gt fp y T w w2:=by
 obtain⟨g,f,e,c,d⟩:=k;refine⟨g,f,fun i b=>?_,(yQ.of_below j).trans c fun i b=>zr b,d⟩;rcases e i b with a|a
 .exact zr a
 .exact zu (zt j.size a)
theorem uc.join {T1:Nat->Prop} {y:Tx} (h:∀i,T1 i->T i\/w.heap.size<=i) (j:yQ T w w1) (k:∀i,T i->T1 i) (l:uc B F gt fp y T1 w1 w2):uc B F gt fp y T w w2:=by
 obtain⟨g,f,e,c,d⟩:=l;refine⟨g,f,fun i b=>?_,j.trans c h,fun i b=>d i (k i b)⟩;rcases e i b with a|a
 .exact h i a
 .exact zu (zt j.size a)
def Tx.freeX (x:Tx) (s:Fs) (i:Nat) (X:Pn):Tx:=
 if 0<X.l\/0<(getZ s.held (i+1)).getD 0 then x else {x with gone:=x.gone++nzF X.P,nodes:=x.nodes.set i zN,dirty:=putZ x.dirty (i+1) (.bool true)}
theorem S3 {x:Tx} (n:FsAt w0 gf s F1 a) (o:Below w0 w0 w) (h:TxAt w w0 F gt (gf,()) x T) (p:∀i,F i->i<w.heap.size)
 (i:Nat) (j:i<32) (X) (k:x.nodes[i]?=some X) (t:0<=X.l) (u:0<=(getZ s.held (i+1)).getD 0) (m:X.P.length<=8) (q:x.gone.length<=900) (r:x.dirty.length<900):
 Calls prog 100 #[(gt,()),.int .i64 (i+1)] w
  (fun e w'=>e=.returned (.tuple #[])/\uc w0 F gt (gf,()) (x.freeX s i X) T w w'):=by
 unfold Tx.freeX;by_cases f:0<X.l
 .rw[ze (zr f)];exact (Nu h i j X k f).mono fun e w' ⟨b,c⟩=>⟨b,uc.same h c⟩
 .by_cases d:0<(getZ s.held ((i:Int)+1)).getD 0
  .rw[ze (zu d)];exact (LM n o h i j X k (by omega) d).mono fun e w' ⟨b,c⟩=>⟨b,uc.same h c⟩
  .rw[zb (fun g=>g.elim f d)];exact Tg n o h p i j X k (by omega) (by omega) m q r
theorem S6 {x:Tx} (hf:FsAt w0 gf s F1 a) (hb:Below w0 w0 w) (h:TxAt w w0 F gt (gf,()) x T) (hF:∀i,F i->i<w.heap.size)
 (i:Nat) (hi:i<32) (X) (hX:x.nodes[i]?=some X) (hl:0<X.l/\X.l<=200) (hh:0<=(getZ s.held (i+1)).getD 0) (ab:X.P.length<=8) (hg:x.gone.length<=900) (hd:x.dirty.length<890) (y)
 (hy:y=({x with nodes:=x.nodes.set i {X with l:=X.l-1},dirty:=putZ x.dirty (i+1) (.bool true)}).freeX s i {X with l:=X.l-1}):
 Calls prog 71 #[(gt,()),.int .i64 (i+1)] w
  (fun e w'=>e=.returned (.tuple #[])/\uc w0 F gt (gf,()) y T w w'):=by
 have H:=za h;have HF:=za hf;have V:=za hb;have E:=za hF;have B:=za (mr h i hi X hX);have t:=za h.len;have M:=za ab;have HG:=za hg;have D:=za hd;have Y:=za hy;obtain⟨l,Hl⟩:=zD X.l;rw[Hl.o]at B hl Y;have iw:=zW (l-1) (by omega);have ag:=za hl;clear h hf hb hF hX hy;go_enter func71,ntmps71;go_wp2_with fail
 refine B.o.mono ?_;rintro e d ⟨q,n,c,rfl,p,C⟩;have z:=za C;have I:=za p;have f:(d.alloc (.cells #[X.k,X.m,X.u,X.g,X.s,l,X.up,(q,n,c)] 123)).heap[d.heap.size]?=some (.cells #[X.k,X.m,X.u,X.g,X.s,l,X.up,(q,n,c)] 123):=zH;have s5:=(uT f).2.2.2.2.2.1;have z5:(d.alloc (.cells #[X.k,X.m,X.u,X.g,X.s,l,X.up,(q,n,c)] 123)).frozen? (d.heap.size,5)=false:=zF f;have j:(d.alloc (.cells #[X.k,X.m,X.u,X.g,X.s,.int .i64 (l-1),X.up,(q,n,c)] 123)).heap[d.heap.size]?=some (.cells #[X.k,X.m,X.u,X.g,X.s,.int .i64 (l-1),X.up,(q,n,c)] 123):=zH;obtain⟨m0,m1,m2,m3,m4,m5,m6,m7⟩:=uT j;have A:Hid (Below w w (d.alloc (.cells #[X.k,X.m,X.u,X.g,X.s,.int .i64 (l-1),X.up,(q,n,c)] 123))):=z.o.alloc z.o.size _;have Q:=za (H.o.below A.o);have b:=lP Q.o i hi {X with l:=l-1} q n c (I.o.below (zB.alloc zL _)) (by have:=D.o;omega);have v:=za b;clear b p C f j;go_wp2_with fail
 refine v.o.mono ?_;rintro e w3 ⟨rfl,R⟩;obtain⟨W,L,S,G,U⟩:=uc.after H.o A.o R;have J:Hid ((∀i,W i->T i\/w.heap.size<=i)/\yQ T w w3/\∀i,T i->W i):=⟨S,G,U⟩;have ap:=za L;have O:(x.nodes.set i {X with l:=l-1})[i]?=some {X with l:=l-1}:=tm (by rw[t.o];exact hi);have K:=za (S3 HF.o (V.o.trans (G.to_below H.o.new V.o.size)) L (fun r hr=>zo (E.o r hr) G.size) i hi {X with l:=l-1} O (by show 0<=l-1;omega) hh M.o HG.o (by have h2:=oy ((i:Int)+1) (Value.bool true) x.dirty;have h3:=D.o;show (putZ x.dirty _ _).length<900;omega));clear R L S G U m0 m1 m2 m3 m4 m5 m6 m7 s5 z5;go_wp2_with fail
 refine K.o.mono ?_;rintro e w4 ⟨rfl,Z⟩;have N:=za Z;clear Z;go_wp2;refine⟨rfl,.tuple #[],(by simp[results,results71,go_sem]),rfl,?_⟩;rw[Y.o];exact uc.join J.o.1 J.o.2.1 J.o.2.2 N.o
theorem Xw {x:Tx} (h:TxAt w B F gt fp x T) (t:FsAt w gf s F1 a) (r:PtR x s p):(secT x s p.toNat).length=64:=by
 by_cases f:p<(s.k:Int)
 .exact Rl h t _ (by have:=r.1;omega)
 .obtain⟨q,i,j,m,l,o,E,n,d⟩:=h.lies;have c:=r.2.2.resolve_left f;rw[<-vK r.1]at c;unfold secT;rcases d.secs.get (k:=(p.toNat:Int)) with⟨_,b⟩|⟨v,D,_,b,g⟩
  .rw[b]at c;cases c
  .rw[b];obtain⟨_,_,_,_,e,_⟩:=g;exact e
theorem MM {x:Tx} (h:TxAt w B F gt fp x T) (b:FsAt w gf s F1 a) (c:PtR x s p):(tT (secT x s) p).length=64:=by
 unfold tT;split
 .exact yN
 .exact Xw h b c
theorem IY {N:Nat->List Int} {P:List Int} (h:∀p∈P,(tT N p).length=64):∀j,j<=P.length->(qc N P j).length=64*j
 | 0,_=>rfl
 | j+1,b=>by have a:j<P.length:=b;rw[UX N P j a,zm,IY h j (by omega),h _ (zx a)];omega
theorem US {x:Tx} (h:TxAt w B F gt (gf,()) x T) (hf:FsAt w gf s F1 a) (i:Nat) (hi:i<32) (X) (hX:x.nodes[i]?=some X)
 (hP:∀p∈X.P,PtR x s p) (ai:X.P.length<=8) (hs:0<=X.s/\X.s<=64*X.P.length):
 Calls prog 68 #[(gt,()),.int .i64 (i+1)] w
  (fun e w'=>∃v,e=.returned v/\w'.ownsRow w 5 1 v (tO (secT x s) X.P X.s).length (u8s (tO (secT x s) X.P X.s))/\Below w w w'):=by
 have Y:=za (mr h i hi X hX);have H:=za h;have HF:=za hf;have r:Hid (∀p∈X.P,(tT (secT x s) p).length=64):=fun p hp=>MM h hf (hP p hp);have aI:=za hP;obtain⟨n,I⟩:=zD X.P.length;have aK:n<=8:=by rw[<-I.o];exact ai
 rw[I.o]at hs;obtain⟨t,HT⟩:∃t:Nat,Hid (X.s=(t:Int)):=⟨X.s.toNat,by show _=_;omega⟩;have ht:t<=64*n:=by have:=HT.o;omega
 obtain⟨b,ae⟩:=zD (secT x s);have aP:Hid (∀j (hj),rj x s X.P j=tT b X.P[j]):=fun j hj=>by unfold rj tT;rw[show X.P.getD j 0=X.P[j] by rw[zi,zh hj];rfl,<-ae.o]
 rw[ae.o]at r ⊢;obtain⟨i0,aj,aa,an,af⟩:=xy fW;have aT:=za aj;have aA:=za aa;have a1:=za an;have aH:=za af;clear aj aa an af h hf hX hP ai;go_enter func68,ntmps68;go_wp2_with fail
 refine Y.o.mono ?_;rintro e w1 ⟨q,m,c,rfl,z,aq⟩;have ah:=za aq;have aO:=za z;have aF:m=n:=by
  have:=z.now.1;obtain⟨_,⟨h0,a0,c0,hv⟩|⟨g,o,c0,hv,_⟩⟩:=z.now
  .injection hv with _ e2 _;have:=I.o;omega
  .injection hv with _ e2 _;have:=I.o;omega
 subst aF;clear aq z Y;go_wp2;obtain⟨gb,W⟩:=zD w1.heap.size;obtain⟨D,A⟩:=zD (w1.alloc (.cells #[X.k,X.m,X.u,X.g,X.s,X.l,X.up,(q,m,c)] 123));have d:Hid (Below w w D):=by show _;rw[<-A.o];exact ah.o.alloc ah.o.size _
 have aD:Hid (D.heap[gb]?=some (.cells #[X.k,X.m,X.u,X.g,X.s,X.l,X.up,(q,m,c)] 123)):=by show _=_;rw[<-A.o,<-W.o];exact zH
 have a3:Hid (vT D (q,m,c) X.P):=by show _;rw[<-A.o];exact wh.below aO.o.now (zB.alloc zL _)
 rw[A.o,W.o];go_loopw [6,14] (fun o iv wr=>∃j:Nat,j<=m/\iv=.int .i64 j/\Hid (wr.ownsRow D 5 1 o (64*j) (u8s (qc b X.P j)))/\Hid (Below D D wr)) (fun _ iv _=>m-(intOf iv).toNat);case atStart=>exact⟨0,ye _,rfl,xd _ _ _ _,zB⟩
 case round=>
  obtain⟨j,hj,rfl,HO,U⟩:=hrel;have az:=za (wy U.o aD.o);obtain⟨z0,z1,z2,z3,z4,z5,z6,z7⟩:=uT az.o;by_cases a9:j<m
  .have M:j<X.P.length:=(by rw[I.o];exact a9);have ao:j<(m:Int):=(by omega);have y:=za (d.o.trans (U.o.mono d.o.size));have Q:=za (Kv (H.o.below y.o) (HF.o.below y.o) X q m c (wh.below a3.o U.o) j (by omega) aI.o (by rw[I.o];exact aK));have aG:=za (aP.o j M);have ab:=za (UX b X.P j M);have C:=za (r.o X.P[j] (zx M));rw[aG.o]at Q;obtain⟨bl,aN⟩:∃l:List Int,Hid (tT b X.P[j]=l):=⟨tT b X.P[j],rfl⟩;rw[aN.o]at Q ab C;go_wp2_with fail
   refine Q.o.mono ?_;rintro e w3 ⟨v3,rfl,g3,E,aX,rfl,K,al,R,O⟩;rw[C.o]at K R ⊢;have aB:=za (sJ.cell (_B:=D.heap.size) (_cap:=E) C.o al R);have ad:=za (tB HO.o O);have S:=za O;clear al R O;have ba:j<=8:=(by omega);have aJ:Hid ((u8s bl).length=64):=(by show _=_;rw[uo,C.o]);have a2:=za (mG bl);have ay:=za (zt U.o.size S.o.size);go_wp2_with (at_builtin;refine yI _ rfl _ _ 56 rfl D.heap.size 5 i0 (.int .u8 0) 1 1 u8sT aT.o aA.o a1.o aH.o rfl (by decide) _ _ _ rfl ad.o ⟨g3,0,none⟩ 64 E (u8s bl) rfl (by rw[aJ.o]) aB.o a2.o (by unfold maxLen;omega) (by omega) ay.o ?_;intro v5 w5 J f V)
   have a7:Hid (w5.ownsRow D 5 1 v5 (64*(j+1)) (u8s (qc b X.P (j+1)))):=(by show _;rw[ab.o,pC,show 64*(j+1)=64*j+64 by omega];exact J);have aR:=za (xB (zf U.o S.o) f (zt U.o.size S.o.size) (fun q hq=>(ad.o.lt q hq).1));clear J f V;go_wp2;go_roundw;case rel=>exact⟨j+1,by omega,by go_num,a7,aR⟩
   case measure=>simp[intOf];omega
  .obtain rfl:j=m:=(by omega);have ao:¬(j<(j:Int)):=(by omega);rw[HT.o]at z4;obtain⟨L,HL⟩:∃L:Nat,Hid (64*j=L):=⟨_,rfl⟩;rw[HL.o]at HO ht;have aw:Hid (qc b X.P j=X.P.flatMap (tT b)):=(by show _=_;rw[<-I.o];exact Ig b X.P);have am:Hid ((qc b X.P j).length=L):=(by show _=_;rw[<-HL.o];exact IY r.o j (by rw[I.o];exact zL));have G:Hid (tO b X.P X.s=(qc b X.P j).take t):=(by show _=_;unfold tO;rw[<-aw.o,HT.o];rfl);have y:=za (d.o.trans (U.o.mono d.o.size));have av:=d.o.size;obtain⟨au,⟨hv,h0⟩|⟨gq,cq,N,rfl,aC,hh,aZ,ap,ac,ak⟩⟩:=id HO.o
   .subst hv;have a8:L=0:=(by have:=am.o;omega);subst a8;obtain rfl:t=0:=(by omega);go_wp2;go_ret;refine⟨_,rfl,?_,y.o⟩;rw[G.o];simp only[xH];exact xd _ _ _ _
   .have HH:=za hh;have ax:=za ak;have a5:=za ap;have aS:=za ac;clear hh ak ap ac au;have ag:Hid (wr.ownsRow w 5 1 (gq,0,t,cq) (tO b X.P X.s).length (u8s (tO b X.P X.s))):=(by have Z:((qc b X.P j).take t).length=t:=(by rw[zj,am.o];omega);show _;rw[G.o,Z];refine⟨by rw[uo,Z];omega,zu ⟨gq,cq,N,rfl,zt av aC,HH.o,by omega,a5.o,aS.o,?_⟩⟩;have e2:N.toList.take (t*1)=(N.toList.take (L*1)).take t:=(by rw[vj];congr 1;omega);rw[e2,ax.o,oV]);have e1:t<=(cq:Int):=(by omega);have e3:t<=cq:=(by omega);go_wp2;go_ret;exact⟨_,rfl,ag.o,y.o⟩
structure lS (x:Tx):Prop where
 f0:256<=x.fake
 f1:x.fake<900000
 g:x.gone.length<=900
 p:x.put.length<800
 d:x.dirty.length<890
structure DirT (x:Tx) (s:Fs) (i:Nat) (X:Pn) (D:List Int):Prop where
 lt:i<32
 nd:x.nodes[i]?=some X
 pts:∀p∈X.P,PtR x s p
 fk:∀p∈X.P,0<=p/\p<=x.fake
 len:X.P.length<=8
 sz:0<=X.s/\X.s<=64*(X.P.length:Int)
 by_:tO (secT x s) X.P X.s=D
 byte:un D
 ok:sU D=true
theorem ZX {x:Tx} (hf:FsAt w0 gf s F1 a) (hb:Below w0 w0 w) (h:TxAt w w0 F gt (gf,()) x T) (hF:∀i,F i->i<w.heap.size)
 (hr:lS x) (i) (X) (D) (hd:DirT x s i X D) (e):
 Calls prog 83 #[(gt,()),.int .i64 (i+1),.string e.1,.int .i64 e.2] w
  (fun r w'=>r=.returned (.int .i64 (tc D e))/\uc w0 F gt (gf,()) (if tc D e=0 then x.fillX s.k i X (layD (outD D++[e])) else x) T w w'):=by
 have Q:=za (US h (hf.below hb) i hd.lt X hd.nd hd.pts hd.len hd.sz);rw[hd.by_]at Q;have H:=za h;have O:=za hF;have A:=za hb;have I:Hid (∀(v) (W),sx W v D->Calls prog 136 #[v,.agg #[.string e.1,e.2]] W (iN D e W)):=fun v W P=>TF v D e W P hd.byte hd.ok;have n:Hid (tc D e=0->∀(v) (W),Below w w W->sx W v (layD (outD D++[e]))->(∀b,v.ownBlock=some b->w.heap.size<=b)->Calls prog 127 #[(gt,()),.int .i64 (i+1),v] W
  (fun r w'=>r=.returned (.tuple #[])/\uc w0 F gt (gf,()) (x.fillX s.k i X (layD (outD D++[e]))) T W w')):=fun l v W K P M=>
  gO hf (A.o.trans (K.mono A.o.size)) (H.o.below K) (fun r hr=>zo (O.o r hr) K.size) i hd.lt X hd.nd v _ P (fun b hb hT=>zY (H.o.fin b hT) (xQ (M b hb))) (by have U:=VI hd.ok l;have h2:=ZV U;have h3:=(rO _).1 U;omega) hd.len hd.fk ⟨hr.f0,hr.f1⟩ hr.g hr.p (by have:=hr.d;omega)
 obtain⟨D',t⟩:=zD (layD (outD D++[e]));obtain⟨y,Y⟩:=zD (x.fillX s.k i X D');rw[t.o,Y.o]at n;obtain⟨z,C⟩:=zD (tc D e);rw[t.o,Y.o,C.o];rw[C.o]at n;clear hf hb h hF hr hd;go_enter func83,ntmps83;go_wp2_with fail
 refine Q.o.mono ?_;rintro r R ⟨V,rfl,m,E⟩;have q:=za E;have N:Hid (sx R V D):=⟨wh.of_owns m,jA m⟩;clear m E Q;go_wp2_with fail
 refine (I.o V R N.o).mono ?_;rintro r w2 (⟨l,Z,rfl,j,B,c⟩|⟨l,rfl,c⟩)
 .obtain rfl:z=0:=by rw[<-C.o];exact l
  rw[t.o]at j;have L:=za j;have f:=za (zf q.o c);have J:Hid (∀b,Z.ownBlock=some b->w.heap.size<=b):=fun b hb=>zt q.o.size (B b hb);clear j c B l;go_wp2_with fail
  refine (n.o trivial Z w2 f.o L.o J.o).mono ?_;rintro r w3 ⟨rfl,u⟩;have G:=za (uc.after H.o f.o u);clear u;go_wp2;go_ret;exact⟨rfl,G.o⟩
 .have f:=za (zf q.o c);have S:¬z=0:=by rw[<-C.o];exact l
  have b1:(z==0)=false:=by simpa using S
  have aa:=za S;rw[C.o];clear c l;go_wp2;go_ret;exact⟨rfl,uc.same H.o f.o⟩
theorem L9 {l:List En} {name:ByteArray} (g:(l.map (·.1)).Nodup) (i) (hi) (h:name=l[i].1):l.eraseIdx i=l.filter fun y=>decide (name≠y.1):=by
 induction l generalizing i with
 | nil=>simp at hi
 | cons a l e=>
  rw[yF,vJ]at g;cases i with
  | zero=>
   have b:name=a.1:=h;rw[List.eraseIdx_cons_zero,vo,zb (by simp[b])];refine (uQ.2 fun y f=>?_).symm;rw[yJ];exact fun d=>g.1 (zU.2 ⟨y,f,by rw[<-d,b]⟩)
  | succ i=>
   have c:i<l.length:=(by simpa using hi);have b:name=l[i].1:=(by simpa using h);rw[List.eraseIdx_cons_succ,vo,ze (by rw[yJ];exact fun d=>g.1 (zU.2 ⟨l[i],zx c,by rw[<-b,d]⟩)),e g.2 i c b]
def pw (D:List Int) (name:ByteArray):List En:=(outD D).filter fun y=>decide (name≠y.1)
def hasE (D:List Int) (name:ByteArray):Bool:=(outD D).any fun y=>decide (name=y.1)
theorem Pf {x:Tx} (hf:FsAt w0 gf s F1 a) (hb:Below w0 w0 w) (h:TxAt w w0 F gt (gf,()) x T) (hF:∀i,F i->i<w.heap.size)
 (hr:lS x) (i) (X) (D) (hd:DirT x s i X D) (name):
 Calls prog 70 #[(gt,()),.int .i64 (i+1),.string name] w
  (fun r w'=>r=.returned (.tuple #[])/\uc w0 F gt (gf,()) (if hasE D name=true then x.fillX s.k i X (layD (pw D name)) else x) T w w'):=by
 have V:=za (US h (hf.below hb) i hd.lt X hd.nd hd.pts hd.len hd.sz);rw[hd.by_]at V;have H:=za h;have S:=za hF;have C:=za hb;obtain⟨K,B,_⟩:=mP hd.ok;have u:Hid (∀(v) (W),sx W v D->Calls prog 126 #[v,.string name] W (fun e w'=>(hasE D name=false/\e=.returned (.tuple #[.slice none 0 0,(4:Int)])/\Below W W w')\/(hasE D name=true/\jK (pw D name) W e w'))):=fun v W U=>(TL v D name W U hd.byte hd.ok).mono fun r w' hr=>by
  rcases hr with⟨L,t⟩|⟨j,hj,J,t⟩
  .exact zr ⟨by unfold hasE;rw[tq];intro y hy;rw[L y hy];decide,t⟩
  .refine zu ⟨by unfold hasE;exact wb.2 ⟨_,zx hj,J⟩,?_⟩;rw[L9 K.nodup j hj (by simpa using J)]at t;exact t
 have E:Hid (∀(v) (W),Below w w W->sx W v (layD (pw D name))->(∀b,v.ownBlock=some b->w.heap.size<=b)->Calls prog 127 #[(gt,()),.int .i64 (i+1),v] W
  (fun r w'=>r=.returned (.tuple #[])/\uc w0 F gt (gf,()) (x.fillX s.k i X (layD (pw D name))) T W w')):=fun v W O U Q=>
  gO hf (C.o.trans (O.mono C.o.size)) (H.o.below O) (fun r hr=>zo (S.o r hr) O.size) i hd.lt X hd.nd v _ U (fun b hb hT=>zY (H.o.fin b hT) (xQ (Q b hb))) (by have Z:=(rO _).1 B;have t:(pw D name).length<=(outD D).length:=vh _ _;have h3:sf (pw D name)=0:=(rO _).2 ⟨by omega,fun x hx=>Z.2.1 x ((vu.1 hx).1),Z.2.2.sublist ((List.filter_sublist).map _)⟩;rw[ZV h3];omega) hd.len hd.fk ⟨hr.f0,hr.f1⟩ hr.g hr.p (by have:=hr.d;omega)
 obtain⟨D',q⟩:=zD (layD (pw D name));obtain⟨y,HY⟩:=zD (x.fillX s.k i X D');obtain⟨z,HZ⟩:=zD (hasE D name);rw[q.o,HY.o]at E;rw[q.o,HY.o,HZ.o];rw[HZ.o]at u;clear hf hb h hF hr hd K B;go_enter func70,ntmps70;go_wp2_with fail
 refine V.o.mono ?_;rintro r Y ⟨v1,rfl,m,I⟩;have n:=za I;have R:Hid (sx Y v1 D):=⟨wh.of_owns m,jA m⟩;clear m I V;go_wp2_with fail
 refine (u.o v1 Y R.o).mono ?_;rintro r w2 (⟨rfl,rfl,c⟩|⟨rfl,v2,rfl,l,G,c⟩)
 .have f:=za (zf n.o c);clear c;go_wp2;exact⟨rfl,.tuple #[],(by simp[results,results70,go_sem]),rfl,uc.same H.o f.o⟩
 .rw[q.o]at l;have P:=za l;have f:=za (zf n.o c);have N:Hid (∀b,v2.ownBlock=some b->w.heap.size<=b):=fun b hb=>zt n.o.size (G b hb);clear l c G;go_wp2_with fail
  refine (E.o v2 w2 f.o P.o N.o).mono ?_;rintro r w3 ⟨rfl,A⟩;have M:=za (uc.after H.o f.o A);clear A;go_wp2;exact⟨rfl,.tuple #[],(by simp[results,results70,go_sem]),rfl,M.o⟩
def fitQ (s:Fs) (x:Tx) (r:Int×Int):Bool:=decide (mayQ s.rows r.1 (tr s.nodes r.1 32) ((tr x.nodes r.1 32)-(tr s.nodes r.1 32))=0)
def mD (s:Fs) (x:Tx):Bool:=s.rows.all (fitQ s x)
theorem S5 {x:Tx} (h:TxAt w B F gt (gf,()) x T) (hf:FsAt w gf s F1 a) (hs:∀X∈s.nodes,X.P.length<=8) (hx:∀X∈x.nodes,X.P.length<=8):
 Calls prog 117 #[(gt,())] w (fun e w'=>e=.returned (.bool (mD s x))/\Below w w w'):=by
 have HF:=za hf;obtain⟨rv,gn,cn,gd,gp,gv,E,pl,U⟩:=h.lies;obtain⟨c0,_,t,_⟩:=rt U.row;have D:=xR U.row;obtain⟨nv,E',n1,n2,n3⟩:=XW hf;obtain⟨⟨gl,aT,aQ,bt,bh,E2,tl,FD,f1,f2,f3,f4,f5,f6,f7,_⟩,_,q,_⟩:=hf;obtain⟨_,_,i,_⟩:=nw f1;have V:=xR f1;have a5:=za f7.now;obtain⟨ar,L,ai,N⟩:=Ya f7.now;subst ai;have aw:=za N;obtain⟨n,G⟩:=zD s.rows.length;have aK:n<=20:=by rw[<-G.o];exact HF.o.rows
 have ap:Hid (∀(W) (u),Below w w W->Calls prog 61 #[nv,.int .i64 u] W fun e w'=>e=.returned (.int .i64 (tr s.nodes u 32))/\Below W W w'):=fun W u f=>Jc (n2.below f) (n3.keep (yQ.of_below f)) q hs u;have ax:Hid (∀(W) (u),Below w w W->Calls prog 61 #[.slice (some ⟨gn,0,none⟩) 32 cn,.int .i64 u] W fun e w'=>e=.returned (.int .i64 (tr x.nodes u 32))/\Below W W w'):=fun W u f=>Jc (by rw[h.len];exact (wh.of_owns U.own).below f) (U.nds.keep (yQ.of_below f)) h.len hx u;have HM:Hid (∀(W) (u),Below w w W->Calls prog 157 #[(ar,n,L),.int .i64 u,.int .i64 (tr s.nodes u 32),.int .i64 ((tr x.nodes u 32)-(tr s.nodes u 32))] W fun e w'=>e=.returned (.int .i64 (mayQ s.rows u (tr s.nodes u 32) ((tr x.nodes u 32)-(tr s.nodes u 32))))/\Below W W w'):=fun W u f=>by have h1:=ZR hs u 32;have h2:=ZR hx u 32;have:=TX (ar,s.rows.length,L) s.rows u (tr s.nodes u 32) ((tr x.nodes u 32:Int)-(tr s.nodes u 32:Int)) W (a5.o.below f) (by rw[G.o];omega) (by omega) (by omega) (by omega) (by omega);rw[G.o]at this;exact this
 have K:Hid (∀u,(tr s.nodes u 32<=256)/\tr x.nodes u 32<=256):=fun u=>⟨ZR hs u 32,ZR hx u 32⟩;rw[G.o]at i;have Z:Hid (w.cell? (gt,0)=some (.pointer (some ⟨gf,0,none⟩))/\w.cell? (gt,194)=some (.slice (some ⟨gn,0,none⟩) 32 cn)/\w.cell? (gf,194)=some (.slice ar n L)/\w.cell? (gf,195)=some nv):=⟨c0,t,i,n1⟩;clear h U hs hx f1 f2 f3 f4 f5 f6 f7 n2 n3 N t n1 q;go_enter func117,ntmps117;go_wp2;clear c0 i;go_loopw [14] (fun iv wr=>∃j:Nat,j<=n/\iv=.int .i64 (j:Int)/\Hid ((s.rows.take j).all (fitQ s x)=true)/\Hid (Below w w wr)) (fun iv _=>n-(intOf iv).toNat);case atStart=>exact⟨0,ye _,rfl,rfl,zB⟩
 case round=>
  obtain⟨j,hj,rfl,HA,Y⟩:=hrel;by_cases av:j<n
  .have ac:j<(n:Int):=(by omega);obtain⟨g,o,rfl,hg,hc⟩:=aw.o (by rw[G.o];omega);have A:j<s.rows.length:=(by rw[G.o];exact av);obtain⟨r0,r1⟩:=hc j A;obtain⟨u,l,Hr⟩:∃u l,Hid (s.rows[j]=(u,l)):=⟨s.rows[j].1,s.rows[j].2,za rfl⟩;rw[Hr.o]at r0 r1;have ak:Hid ((s.rows.take (j+1)).all (fitQ s x)=fitQ s x (u,l)):=(by show _=_;rw[gT _ _ _ (zh A),List.all_append,HA.o,uf,Hr.o];simp);have y0:wr.cell? (g,o+j*2)=some (.int .i64 u):=(Y.o.cell (p:=⟨g,o+j*2,none⟩) hg).trans r0;have y1:wr.cell? (g,o+j*2+1)=some (.int .i64 l):=(Y.o.cell (p:=⟨g,o+j*2+1,none⟩) hg).trans r1;clear hc r0 r1;go_wp2_with fail
   obtain⟨W1,H⟩:=zD (wr.alloc (.cells #[u,l] 187));have c:Hid (Below w w W1):=(by show _;rw[<-H.o];exact Y.o.alloc Y.o.size _);obtain⟨gr,J⟩:=zD wr.heap.size;have C:W1.heap[gr]?=some (.cells #[u,l] 187):=(by rw[<-H.o,<-J.o];exact zH);have M:W1.cell? (gr,0)=some (.int .i64 u):=zC C;have p0:=(c.o.cell (p:=⟨gt,0,none⟩) D).trans Z.o.1;have p1:=(c.o.cell (p:=⟨gf,195,none⟩) V).trans Z.o.2.2.2;have km:=xA M;have k0:=xA p0;have k1:=xA p1;have Q:=za C;clear y0 y1 C M p0 p1;rw[H.o,J.o];refine wQ (by kernel_rfl) (by kernel_rfl) ?_
   repeat (first
    | go_big_quiet_skip
    | (refine qE 61 #[.tmp 24,.tmp 26] #[108,3] rfl rfl (fun _ _=>by kernel_rfl) #[nv,u] (by kernel_rfl) (.int .i64 (tr s.nodes u 32:Int)) (fun _ _=>qu) (fun w' S=>ap.o w' u (c.o.trans ((sF S).mono c.o.size))) ?_;simp only[Act.put,zK,yi,yf])
    | (go_big_quiet_want;go_big_quiet_op;go_big_quiet_on))
   refine ve ?_;intro w2 y;have b:=za (c.o.trans ((sF y).mono c.o.size));have M:w2.cell? (gr,0)=some (.int .i64 u):=(zC (wy (sF y) Q.o));have p0:=(b.o.cell (p:=⟨gt,0,none⟩) D).trans Z.o.1;have p1:=(b.o.cell (p:=⟨gf,194,none⟩) V).trans Z.o.2.2.1;have p2:=(b.o.cell (p:=⟨gt,194,none⟩) D).trans Z.o.2.1;have au:=xA M;have ay:=xA p0;have a9:=xA p1;have ao:=xA p2;clear km k0 k1 y M p0 p1 p2;obtain⟨r,k⟩:∃z:Nat,Hid (tr s.nodes u 32=z):=⟨_,za rfl⟩;obtain⟨I,m⟩:∃z:Nat,Hid (tr x.nodes u 32=z):=⟨_,za rfl⟩;obtain⟨z,HZ⟩:=zD (mayQ s.rows u r ((I:Int)-(r:Int)));have v:fitQ s x (u,l)=decide (z=0):=(by unfold fitQ;rw[k.o,m.o,HZ.o]);have ab:=za v;have hm:=HM.o;have iw:IntKind.i64.wrap (I-r)=I-r:=zQ _ (by have h1:=(K.o u).1;have h2:=(K.o u).2;rw[k.o]at h1;rw[m.o]at h2;omega);have a6:Hid (∀W,Below w w W->Calls prog 157 #[(g,o,n,L),u,r,.int .i64 (I-r)] W fun e w'=>e=.returned z/\Below W W w'):=fun W f=>(by have:=hm W u f;rw[k.o,m.o,HZ.o]at this;exact this);have ae:Hid (∀W,Below w w W->Calls prog 61 #[.slice (some ⟨gn,0,none⟩) 32 cn,u] W fun e w'=>e=.returned I/\Below W W w'):=fun W f=>(by have:=ax.o W u f;rw[m.o]at this;exact this);rw[k.o];clear hm v;go_wp2_with fail
   refine wQ (by kernel_rfl) (by kernel_rfl) ?_
   repeat (first
    | go_big_quiet_skip
    | (refine qE 61 #[.tmp 41,.tmp 43] #[108,3] rfl rfl (fun _ _=>by kernel_rfl) #[.slice (some ⟨gn,0,none⟩) 32 cn,u] (by kernel_rfl) (.int .i64 (I:Int)) (fun _ _=>qu) (fun w' S=>ae.o w' (b.o.trans ((sF S).mono b.o.size))) ?_;simp only[Act.put,zK,yi,yf])
    | (refine qE 157 #[.tmp 34,.tmp 36,.tmp 37,.tmp 46] #[107,3,3,3] rfl rfl (fun _ _=>by kernel_rfl) #[(g,o,n,L),u,r,.int .i64 ((I:Int)-(r:Int))] (by kernel_rfl) (.int .i64 z) (fun _ _=>qu) (fun w' S=>a6.o w' (b.o.trans ((sF S).mono b.o.size))) ?_;simp only[Act.put,zK,yi,yf])
    | (go_big_quiet_want;go_big_quiet_op;go_big_quiet_on))
   refine ve ?_;intro w3 O;have R:=za (b.o.trans ((sF O).mono b.o.size));clear au ay a9 ao O;by_cases hz:z=0
   .subst hz;have a3:Hid ((s.rows.take (j+1)).all (fitQ s x)=true):=(by show _=_;rw[ak.o,ab.o];rfl);go_wp2;go_roundw;case rel=>exact⟨j+1,by omega,by go_num,a3,R⟩
    case measure=>simp[intOf];omega
   .have b0:(z==0)=false:=(by simpa using hz);have b1:(z != 0)=true:=(by simpa using hz);have d:Hid (mD s x=false):=(by show s.rows.all (fitQ s x)=false;rw[List.all_eq_false];refine⟨(u,l),by rw[<-Hr.o];exact zx A,?_⟩;rw[ab.o];simpa using hz);go_wp2;go_ret;exact⟨by rw[d.o];rfl,R.o⟩
  .obtain rfl:j=n:=(by omega);have ac:¬j<(j:Int):=(by omega);have d:Hid (mD s x=true):=by
    show s.rows.all (fitQ s x)=true;have:=HA.o
    rwa [zv (vM G.o)]at this
   go_wp2;go_ret;exact⟨by rw[d.o];rfl,Y.o⟩
