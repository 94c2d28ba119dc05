import Derived.Test.YtakfhadmokoikaaGreatDoorKA47
import Derived.Deep.SlicePairs
set_option maxHeartbeats 0
set_option linter.all false
set_option maxRecDepth 100000
namespace Go.Proofs.YtakfhadmokoikaaGreatDoor
open Go.Proofs.Tryz Go.ChangeShapes Go.WideShapes Go.ChangeAt Go.RowKit Go.Deep
variable {e t:TypeId} {f0 f1 f2 f3 f4:Field}
section
variable {H : Type} {enc : TypeId×Value->H} {P : Program} {w : World} {base : Nat} {spare : Nat->Bool} {held : Bool}
theorem Nj {fuel:Nat} {cs:List Value} {x:DataW H×List MemPlace} (R:P.underlying t=some (.slice e)) (S:P.underlying e=some (.struct #[f0,f1,f2,f3,f4]))
 (T:P.cellsOf e=5) (U:f0.offset=0) (V:f1.offset=1) (o2:f2.offset=2) (W:f3.offset=3) (X:f4.offset=4) (Y:P.cellsOf f0.type=1) (Z:P.cellsOf f1.type=1) (c2:P.cellsOf f2.type=1) (c3:P.cellsOf f3.type=1) (c4:P.cellsOf f4.type=1)
 (h:DataW.trod enc P w base spare held fuel t cs=some x):
 cs=[.slice none 0 0] \/
 ∃(a:Addr) (len cap n:Nat),cs=[.slice (some a) len cap]/\len<=cap/\cap<=maxLen /\
  ∀i,i<len->∃(v0 v1 v2 v3 v4:Value) (y0 y1 y2 y3 y4:DataW H×List MemPlace),w.cell? (a.add (i*5))=some v0/\w.cell? (a.add (i*5+1))=some v1/\w.cell? (a.add (i*5+2))=some v2/\w.cell? (a.add (i*5+3))=some v3/\w.cell? (a.add (i*5+4))=some v4 /\
   DataW.trod enc P w base spare held n f0.type [v0]=some y0/\DataW.trod enc P w base spare held n f1.type [v1]=some y1/\DataW.trod enc P w base spare held n f2.type [v2]=some y2/\DataW.trod enc P w base spare held n f3.type [v3]=some y3/\DataW.trod enc P w base spare held n f4.type [v4]=some y4:=by
 rcases open_slice R h with E|⟨a,len,cap,m,n,D,Q,rfl,M,G,L,g,rfl,K⟩
 .exact zt E.1
 right;have I:len<=m:=by rw[g];split<;>omega
 refine⟨a,len,cap,n-1,rfl,G,L,fun i O=>?_⟩;obtain⟨l,r,C⟩:=K i (by omega);rw[T]at r;obtain⟨_,c,b⟩:=World.cells?_some r;obtain⟨J,k,N,F,_,f,d⟩:=DataW.trod_struct S C;have j:k=n-1:=by omega
 subst j
 match J,f,l,c with
 | [y0,y1,y2,y3,y4],_,[v0,v1,v2,v3,v4],_=>
  have q:=d 0 f0 rfl;have v:=d 1 f1 rfl;have p:=d 2 f2 rfl;have B:=d 3 f3 rfl;have u:=d 4 f4 rfl;simp[U,V,o2,W,X,Y,Z,c2,c3,c4]at q v p B u;have o:=b 0 (by omega);have y:=b 1 (by omega);have s:=b 2 (by omega);have z:=b 3 (by omega);have A:=b 4 (by omega);rw[add_add]at o y s z A;exact⟨v0,v1,v2,v3,v4,y0,y1,y2,y3,y4,by simpa using o,by simpa using y,by simpa using s,by simpa using z,by simpa using A,q,v,p,B,u⟩
end
theorem Yt (l:List DoI):(dos l).length=l.length*5:=by
 induction l with
 | nil=>rfl
 | cons y l a=>
  show (dos l).length+5=_;rw[a,yz];omega
theorem Ol (l:List DoI) (j:Nat) (x:Value) (h:(dos l)[j]?=some x):∃k,∃hk:k<l.length,(j=k*5/\x=.int .i64 l[k].K)\/(j=k*5+1/\x=.int .i64 l[k].A)\/(j=k*5+2/\x=.int .i64 l[k].B)\/(j=k*5+3/\x=.int .i64 l[k].C)\/(j=k*5+4/\x=.string l[k].S):=by
 have b:=(zy.1 h).1;rw[Yt]at b;have hk:j / 5<l.length:=by omega
 have a:=iQ l (j / 5) hk;refine⟨j / 5,hk,?_⟩;rcases (by omega:j=j / 5*5\/j=j / 5*5+1\/j=j / 5*5+2\/j=j / 5*5+3\/j=j / 5*5+4) with e|e|e|e|e<;>rw[<-e,h]at a
 .exact zt ⟨e,by simpa using a.1⟩
 .exact zu (zt ⟨e,by simpa using a.2.1⟩)
 .exact zu (zu (zt ⟨e,by simpa using a.2.2.1⟩))
 .exact zu (zu (zu (zt ⟨e,by simpa using a.2.2.2.1⟩)))
 .exact zu (zu (zu (zu ⟨e,by simpa using a.2.2.2.2⟩)))
theorem ybnd {H:Type} {enc':TypeId×Value->H} {P:Program} {w:World} {base:Nat} {held:Bool} {r:Reach} {b0:Nat} {v:Value} {d:DataW H} {ps:List MemPlace}  
 (ht:P.underlying t=some (.slice e)) (he:P.underlying e=some (.struct #[f0,f1,f2,f3,f4])) (ce:P.cellsOf e=5) (o0:f0.offset=0) (o1:f1.offset=1) (o2:f2.offset=2) (o3:f3.offset=3) (o4:f4.offset=4) (c0:P.cellsOf f0.type=1) (c1:P.cellsOf f1.type=1) (c2:P.cellsOf f2.type=1) (c3:P.cellsOf f3.type=1) (c4:P.cellsOf f4.type=1)
 (u0:P.underlying f0.type=some (.int .i64)) (u1:P.underlying f1.type=some (.int .i64)) (u2:P.underlying f2.type=some (.int .i64)) (u3:P.underlying f3.type=some (.int .i64)) (u4:P.underlying f4.type=some .string)
 (aa:Value.okWide P w r b0 t v) (hd:DataW.Trod enc' P w base (fun _=>true) held t v d ps):
 ∃l:List DoI,oN w v l/\l.length<=maxLen/\∀x,x∈l->x.S.size<=maxLen:=by
 obtain⟨a0,m,s,rfl⟩:=okWide_slice ht aa;obtain⟨Q,hf⟩:=hd;rcases Nj ht he ce o0 o1 o2 o3 o4 c0 c1 c2 c3 c4 hf with q|⟨a,aq,af,n,q,al,Y,O⟩
 .simp[Value.cells]at q;obtain⟨rfl,rfl,rfl⟩:=q;exact⟨[],⟨rfl,zt ⟨rfl,_,_,rfl⟩⟩,ye _,by simp⟩
 .simp[Value.cells]at q;obtain⟨rfl,rfl,rfl⟩:=q;rcases vh m with L|L
  .subst L;exact⟨[],⟨rfl,zt ⟨rfl,_,_,rfl⟩⟩,ye _,by simp⟩
  .obtain⟨g,b,p⟩:=a;have hs:p=none:=(by obtain⟨v0,_,_,_,_,_,_,_,_,_,hh,_⟩:=O 0 (by omega);have:=World.cell?_spot hh;simpa[Addr.add]using this);subst hs;have G:∀i,∃z:DoI,i<m->w.cell? ⟨g,b+i*5,none⟩=some (.int .i64 z.K)/\w.cell? ⟨g,b+(i*5+1),none⟩=some (.int .i64 z.A)/\w.cell? ⟨g,b+(i*5+2),none⟩=some (.int .i64 z.B)/\w.cell? ⟨g,b+(i*5+3),none⟩=some (.int .i64 z.C)/\w.cell? ⟨g,b+(i*5+4),none⟩=some (.string z.S)/\z.S.size<=maxLen:=fun i=>by
    by_cases N:i<m
    .obtain⟨v0,v1,v2,v3,v4,y0,y1,y2,y3,y4,o,f,E,F,I,k0,W,k2,k3,k4⟩:=O i N;obtain⟨z0,J,_⟩:=qN u0 k0;obtain⟨z1,T,_⟩:=qN u1 W;obtain⟨z2,M,_⟩:=qN u2 k2;obtain⟨z3,U,_⟩:=qN u3 k3;obtain⟨z4,V,_,X⟩:=DataW.trod_string u4 k4;rw[add_plain]at o f E F I;simp at J T M U V;rw[J]at o;rw[T]at f;rw[M]at E;rw[U]at F;rw[V]at I;exact⟨⟨z0,z1,z2,z3,z4⟩,fun _=>⟨o,f,E,F,I,X⟩⟩
    .exact⟨⟨0,0,0,0,ByteArray.empty⟩,fun h=>yb h N⟩
   obtain⟨Z,R⟩:=Classical.axiomOfChoice G;have c:((List.range m).map Z).length=m:=(by simp);refine⟨(List.range m).map Z,⟨Yt _,zu ⟨g,b,s,by rw[c],fun j x hj=>?_⟩⟩,by rw[c];omega,fun x u=>?_⟩
   .obtain⟨k,D,o⟩:=Ol _ j x hj;have y:k<m:=(by rwa [c]at D);have f:=R k y;simp only[uH,List.getElem_range]at o;rcases o with⟨rfl,rfl⟩|⟨rfl,rfl⟩|⟨rfl,rfl⟩|⟨rfl,rfl⟩|⟨rfl,rfl⟩
    .exact f.1
    .exact f.2.1
    .exact f.2.2.1
    .exact f.2.2.2.1
    .exact f.2.2.2.2.1
   .obtain⟨k,D,rfl⟩:=zV.1 u;exact (R k (by simpa using D)).2.2.2.2.2
end Go.Proofs.YtakfhadmokoikaaGreatDoor
namespace Go.Proofs.YtakfhadmokoikaaGreatDoor
open Go.Proofs.Tryz Go.RowKit
theorem SA: Go.Proofs.Builder.Extra prog Tryz.lays105_ren:={
 sizeBuilder:=by kernel_rfl,
 liesBuilder:=by kernel_rfl,
 t5:=vP,
 a5:=ly,
 z5:=nN,
 v5:=rQ,
 infoByte:=by kernel_rfl,
 cellsByte:=by kernel_rfl,
 sizeByte:=by kernel_rfl,
 neB5:=by decide}
theorem JZ (x:UInt8):∀n,Lib.repeatL [x] n=List.replicate n x
 | 0=>rfl
 | n+1=>by rw[vI,<-JZ x n];rfl
def qB (n:Nat):ByteArray:=⟨(List.replicate n (113:UInt8)).toArray⟩
theorem UN (n:Nat):(qB n).size=n:=by show (List.replicate n (113:UInt8)).toArray.size=n;simp
theorem UO (n:Nat):strI (qB n)=List.replicate n 113:=by unfold strI qB;simp
theorem UG (n:Nat) (c:n<=300) (W:World):Calls prog 8 #[.string ⟨#[113]⟩,n] W fun e w'=>e=.returned (.string (qB n))/\Below W W w':=
 (Go.Proofs.Any.strings_Repeat Tryz.lays105 SA ⟨#[113]⟩ n W (by omega) (by show 1*n<=140737488355328;omega)).mono fun e w' ⟨b,a⟩=>⟨by rw[b];have:Lib.repeatL (⟨#[113]⟩:ByteArray).data.toList n=List.replicate n 113:=JZ 113 n;rw[this];rfl,a⟩
theorem ybtx (v:Value) (l:List DoI) (u:Value) (Dt:List Int) (n2 n3:Int) (w:World) (h:oN w v l) (hl:l.length<=maxLen) (hs:∀x,x∈l->x.S.size<=maxLen) (hv:tQ w u Dt) (hD:ue Dt):
 Calls prog 3 #[v,u,n2,n3] w (fun e w'=>e=.returned (.bool true)/\Below w w w'):=by
 have b7:=Lib.hid (Of w);have aP:=Lib.hid (fun W (Y:Below w w W)=>QQ v l W (xT.below h Y) hl hs);have a9:Hid (je l=true->∀W,Below w w W->Calls prog 6 #[v] W (fun e w'=>∃gf a F A,e=.returned (.tuple #[.pointer (some ⟨gf,0,none⟩),.pointer (some a)])/\FsAt w' gf (nb l) F a/\SI (nb l) 40 A/\(GI A fun _=>0)/\Below W W w'/\∀i,F i->w.heap.size<=i)):=fun hb W Y=>by obtain⟨h1,h2⟩:=QR hb;obtain⟨A,h3,h4⟩:=iR l (by omega) h2 l.length zL;rw[xN]at h3;refine (R4 v l W (xT.below h Y) h1 h2).mono ?_;rintro e w' ⟨gf,a,F,rfl,q1,q2,q3⟩;exact⟨gf,a,F,A,rfl,q1,h3.mono h1 (by omega),h4,q2,fun i R=>zr Y.size (q3 i R)⟩
 obtain⟨r,f⟩:=zA Dt.length;obtain⟨up,uc,rfl⟩:∃p c,u=.slice p r c:=by obtain⟨p,c,hp⟩:=mH hv.at_ r f.o.symm;exact⟨p,c,hp⟩
 have HV:=Lib.hid hv;have b2:=Lib.hid hD;obtain⟨q,bg,aG⟩:∃k:Nat,pk n2 512=(k:Int)/\(k:Int)<512:=by have:=ro n2 512 (by omega) (by omega);exact⟨(pk n2 512).toNat,by omega,by omega⟩
 obtain⟨d,aL,aQ⟩:∃k:Nat,pk n3 300=(k:Int)/\(k:Int)<300:=by have:=ro n3 300 (by omega) (by omega);exact⟨(pk n3 300).toNat,by omega,by omega⟩
 have bX:Hid (∀W:World,Calls prog 9 #[n2,(512:Int)] W (fun e w'=>e=.returned q/\W=w')):=fun W=>by rw[<-bg];exact og n2 512 W (by omega) (by omega)
 have b3:Hid (∀W:World,Calls prog 9 #[n3,(300:Int)] W (fun e w'=>e=.returned d/\W=w')):=fun W=>by rw[<-aL];exact og n3 300 W (by omega) (by omega)
 have HP:Hid (q<512/\d<300):=⟨by omega,by omega⟩;obtain⟨sb,bD⟩:=zD (je l);rw[bD.o]at aP a9;clear h hl hs hv hD bg aG aL aQ;go_enter func3,ntmps3;go_wp2_with fail
 refine b7.o.mono ?_;rintro e w1 ⟨rfl,bh⟩;have aR:=Lib.hid bh;clear bh;go_wp2_with fail
 refine (aP.o w1 aR.o).mono ?_;rintro e w2 ⟨rfl,aJ⟩;have ab:Hid (Below w w w2):=Below.step aR.o aJ;clear aJ;cases sb with
 | false=>
  go_wp2;go_ret;exact⟨rfl,ab.o⟩
 | true=>
 by_cases cw:512<r
 .have ak:(512:Int)<(r:Int):=by omega
  go_wp2;go_ret;exact⟨rfl,ab.o⟩
 have ak:¬(512:Int)<(r:Int):=by omega
 have bC:=Lib.hid (a9.o rfl w2 ab.o);go_wp2_with fail
 refine bC.o.mono ?_;rintro e w3 ⟨gf,a,F3,A3,rfl,h3,s3,g3,aK,f3⟩;have bH:=Lib.hid (U4 h3 s3 g3 (by omega) ⟨#[122,122]⟩ (by kernel_rfl) (u:=9) (by omega));have au:Hid (Below w w w3):=Below.step ab.o aK;have bc:=Lib.hid f3;clear h3 s3 g3 aK f3 ak;go_wp2_with fail
 refine bH.o.mono ?_;rintro e w4 ⟨n4,bI,s4,rfl,⟨F4,h4,f4,k4⟩,g⟩;have aO:Hid (∀i,F4 i->w.heap.size<=i):=fun i R=>(f4 i R).elim (bc.o i) fun h=>zr au.o.size h;have ad:Hid (Below w w w4):=au.o.trans (k4.to_below bc.o au.o.size);rcases g with he|⟨rfl,m,A4,rfl,hm,ba,g4,q4,d4⟩
 .have hb:(bI != 0)=true:=by simpa using he
  clear h4 f4 k4 he;go_wp2;go_ret;exact⟨rfl,ad.o⟩
 have HM:Hid (m<32):=hm;have aS:=Lib.hid (fun (W:World) (x:Value) (Y:Below w4 w4 W) (hx:tQ W x (List.replicate d 113))=>YE (h4.below Y) ba g4 (by omega) hm q4 (p:=0) (by omega) hx (by rw[zR];have:=HP.o.2;omega) (fun y hy=>by rw[x9 hy];omega));have a6:Hid (∀i,F4 i->i<w4.heap.size):=h4.fin;rw[d4]at aS;clear h4 f4 k4 ba g4 q4 d4 hm;go_wp2_with fail
 refine (b3.o w4).mono ?_;rintro e cz ⟨rfl,rfl⟩;go_wp2_with fail
 refine (UG d (by have:=HP.o.2;omega) w4).mono ?_;rintro e w5 ⟨rfl,ax⟩;have kc:=tN (P:=prog) w5 9 23 5 (qB d) uD uY vP;have B:=kR w5 (qB d);have z:=Up w5 (qB d);have C:=So w5 (qB d);have n:=r9 w5 5 (qB d);have av:=Kv w5 (qB d);rw[UO]at B z;rw[UN]at kc B z;obtain⟨cq,bO⟩:=zD (grownCap w5 d 0 5);obtain⟨w6,bS⟩:=zD (Lib.bytesWorld w5 5 (qB d));rw[bO.o]at kc B z;rw[bS.o]at kc B z C n av;have H:Hid (Below w4 w4 w6):=Below.step ax av;obtain⟨b,Hb⟩:=zD w5.heap.size;rw[Hb.o]at kc B z C n;have bK:=Lib.hid B;have bQ:=Lib.hid z;have aN:=Lib.hid C;have aM:=Lib.hid n;have M:Hid (w4.heap.size<=b/\b<w6.heap.size):=⟨by rw[<-Hb.o];exact ax.size,xL n⟩;clear B z C n av ax;go_wp2_with fail
 refine (aS.o w6 _ H.o bK.o).mono ?_;rintro e w7 ⟨n7,b4,s7,A7,rfl,⟨F7,h7,f7,k7⟩,ay,g7,q7,g⟩;have aI:Hid (∀i,F7 i->w.heap.size<=i):=fun i R=>(f7 i R).elim (aO.o i) fun h=>zr (zr ad.o.size H.o.size) h;have aA:Hid (Below w w w6):=Below.step ad.o H.o;have O:Hid (Below w w w7):=aA.o.trans (k7.to_below aO.o aA.o.size);have ai:Hid (¬F4 b):=fun hc=>by have:=a6.o b hc;have:=M.o.1;omega
 have aj:Hid (¬F7 b):=fun hc=>(f7 b hc).elim ai.o fun h=>by have:=M.o.2;omega
 have aY:Hid (w7.heap[b]?=w6.heap[b]?):=k7.block b M.o.2 ai.o;clear kc;rcases g with⟨he,rfl,d7⟩|⟨rfl,rfl,d7⟩
 .have hb:(b4 != 0)=true:=by simpa using he
  clear h7 f7 k7 ay g7 q7 d7 he;go_wp2;go_ret;exact⟨rfl,O.o⟩
 have N:Hid ((A7 m).D=List.replicate d 113):=by
  show _=_;rw[d7];split
  .rename_i h0;rw[zR]at h0;rw[h0];rfl
  .exact TK _
 have bx:=Lib.hid (YE h7 ay g7 (by omega) HM.o q7 (p:=q) (by have:=HP.o.1;omega) (HV.o.below O.o) (by rw[<-f.o];omega) b2.o);have bb:Hid (w6.heap.size<=w7.heap.size):=k7.size;clear h7 f7 k7 ay g7 q7 d7;go_wp2_with fail
 refine (bX.o w7).mono ?_;rintro e ct ⟨rfl,rfl⟩;go_wp2_with fail
 refine bx.o.mono ?_;rintro e w8 ⟨n8,aX,s8,A8,rfl,⟨F8,h8,f8,k8⟩,bi,g8,q8,g⟩;have cx:Hid (∀i,F8 i->w.heap.size<=i):=fun i R=>(f8 i R).elim (aI.o i) fun h=>zr O.o.size h;have E:Hid (Below w w w8):=O.o.trans (k8.to_below aI.o O.o.size);have L:b<w7.heap.size:=zm M.o.2 bb.o;have aZ:Hid (¬F8 b):=fun hc=>(f8 b hc).elim aj.o fun h=>by omega
 have J:Hid (w8.heap[b]?=w6.heap[b]?):=(k8.block b L aj.o).trans aY.o;have be:Hid (w.heap.size<=b):=zr ad.o.size M.o.1;have aW:Hid (b<w8.heap.size):=zm L k8.size;have K:Hid (∀W,yK (fun i=>i=b) w8 W->FsAt W gf s8 F8 a):=fun W Y=>h8.bytes aZ.o (J.o.trans aM.o) (by intro hc;injection hc with _ hc;omega) (fun j x hx=>aN.o j x (by rw[<-hx];exact (vi J.o).symm)) Y;have cl:=Lib.hid (HV.o.below E.o);have aH:=Lib.hid q8;have aV:=Lib.hid bi;obtain⟨k,HK⟩:=zD (q+r-d);obtain⟨b9,c9,w9,t,za,zo,k9,aC,a8⟩:=Qu (bQ.o.same J.o) aW.o k (by rw[zR];have:=HP.o;have:=HK.o;omega) 23;rw[zR]at t;have bJ:=Lib.hid za;have a5:=Lib.hid zo;have aw:=Lib.hid k9;have aE:=Lib.hid aC;have Q:Hid (Below w w w9):=E.o.trans (k9.to_below (fun i R=>by have:=be.o;omega) E.o.size);have i1:IntKind.i64.wrap ((q:Int)+(r:Int))=(q:Int)+(r:Int):=zQ _ (by have:=HP.o;omega);have i2:IntKind.i64.wrap ((q:Int)+(r:Int)-(d:Int))=(q:Int)+(r:Int)-(d:Int):=zQ _ (by have:=HP.o;omega);have i3:max (0:Int) ((q:Int)+(r:Int)-(d:Int))=(k:Int):=by have:=HK.o;omega
 have bU:Hid (d+k<=c9):=by have:=za.le;rw[zl,zR,zR]at this;exact this
 clear h8 f8 k8 bi g8 q8 za zo k9 aC L a8;rcases g with⟨he,rfl,U⟩|⟨rfl,rfl,U⟩
 case' inl=>
  have HL:Hid ((A8 m).D.length=d):=by show _=_;rw[U,N.o,zR]
  have HY:Hid (vC w9 (b,0,d,cq) (A8 m).D):=by have:=a5.o.bytes;rw[zR]at this;rw[U,N.o];exact this
  have HX:=Lib.hid (K.o w9 aw.o);have V:=Q;have hb:(aX != 0)=true:=by simpa using he
  have hc:(aX==0)=false:=by simpa using he
  go_wp2_with (at_builtin;refine Lib.wpList_append_run _ rfl _ _ _ _ rfl _ _ rfl rfl _ _ t ?_)
  clear t i1 i2 i3 he U
 case' inr=>
  by_cases T:r=0
  case' pos=>
   have G:Dt.length=0:=(by rw[<-f.o];exact T);rw[ze G]at U;have HL:Hid ((A8 m).D.length=d):=(by show _=_;rw[U,N.o,zR]);have HY:Hid (vC w9 (b,0,d,cq) (A8 m).D):=(by have:=a5.o.bytes;rw[zR]at this;rw[U,N.o];exact this);have HX:=Lib.hid (K.o w9 aw.o);have V:=Q;have bF:¬0<(r:Int):=(by omega);have I:(Dt.length:Int)=(r:Int):=(by omega);rw[I];have al:=Lib.hid T;clear T G I U;go_wp2_with (at_builtin;refine Lib.wpList_append_run _ rfl _ _ _ _ rfl _ _ rfl rfl _ _ t ?_)
   clear t i1 i2 i3
  case' neg=>
   have G:¬Dt.length=0:=(by rw[<-f.o];exact T);rw[zb G]at U;have bF:0<(r:Int):=(by omega);have I:(Dt.length:Int)=(r:Int):=(by have:=f.o;omega);rw[I];have al:=Lib.hid G;clear T G I;have bj:q<c9:=(by have:=bU.o;have:=HK.o;omega);have ap:¬c9-q=0:=(by omega);have bE:¬c9=q:=(by omega);have b8:q<=d+k:=(by have:=HK.o;omega);go_wp2_with (at_builtin;refine Lib.wpList_append_run _ rfl _ _ _ _ rfl _ _ rfl rfl _ _ t ?_)
   obtain⟨Z,hz⟩:=Rh bJ.o q (HV.o.below Q.o).at_ (by have:=al.o;omega) (by rw[zl,zR,zR];have:=HK.o;have:=f.o;omega) (c9-q) 3;rw[zl,zR,zR]at Z;have ao:over (List.replicate d 113++List.replicate k 0) q Dt=(A8 m).D:=(by rw[U,N.o,<-Qx _ _ _ (by have:=al.o;omega),zR,<-f.o,HK.o]);rw[ao]at hz;obtain⟨wx,aT⟩:=zD (w9.setCells b9 q (u8s Dt));have am:yK (fun i=>i=b\/i=b9) w8 wx:=(by rw[<-aT.o];exact (aw.o.mono fun i _ h=>zt h).step (yK.cells _ b9 (zu rfl) _ _ _));rw[aT.o]at hz Z;have HL:Hid ((A8 m).D.length=d+k):=(by show _=_;rw[<-ao];unfold over;simp;have:=HK.o;have:=f.o;omega);have HY:Hid (vC wx (b9,0,(d+k),c9) (A8 m).D):=(by have:=hz.bytes;rw[HL.o]at this;exact this);have HX:=Lib.hid (K.o wx (am.mono fun i R h=>h.elim id fun h=>aE.o.elim (fun h2=>h.trans h2) fun h2=>by omega));have V:Hid (Below w w wx):=E.o.trans (am.to_below (fun i R=>by have:=be.o;have:=E.o.size;rcases R with h|h<;>rcases aE.o with h2|h2<;>omega) E.o.size);rw[Z];clear Z hz ao am t i1 i2 i3 U bj ap bE b8;go_wp2_with fail
 all_goals
  obtain⟨S,HS⟩:=zD (sg (A8 m).D);have b5:=Lib.hid (UH HX.o aV.o HM.o aH.o).2;have ag:=Lib.hid (fun W Y=>Us (HX.o.below (w':=W) Y) aV.o HM.o aH.o);rw[HL.o]at ag;refine b5.o.mono ?_;rintro e wr ⟨vr,rfl,aD,aF⟩;have bw:=Lib.hid aD;have X:=Lib.hid aF;clear aD aF;go_wp2_with fail
  refine (ag.o wr X.o).mono ?_;rintro e ws ⟨qm,qu,qg,ql,rfl,s⟩;have bj:∀o,(convert 23 9 vr).run prog (ws.alloc o)=.ok (.string S) (ws.alloc o):=fun o=>by rw[<-HS.o];exact Wm _ (xT.below bw.o (s.alloc s.size o))
  have ap:=fun o=>Wm _ (xT.below HY.o ((Below.step X.o s).alloc (Below.step X.o s).size o));rw[HS.o]at ap;have bd:Hid (∀o,Below w w (ws.alloc o)):=fun o=>(V.o.trans (Below.mono (Below.step X.o s) V.o.size)).alloc (by have:=V.o.size;have:=X.o.size;have:=s.size;omega) o;clear s;go_wp2;go_ret;exact⟨rfl,bd.o _⟩
