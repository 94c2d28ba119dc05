import Derived.Test.YtakfhadmokoikaaGreatDoorKA46
import Derived.Lib.SlBytesConst
set_option maxHeartbeats 0
set_option linter.all false
set_option maxRecDepth 100000
namespace Go.Proofs.YtakfhadmokoikaaGreatDoor
open Go.Proofs.Tryz Go.RowKit
variable {D:List Int} {F:Nat->Prop} {a:Addr} {gf:Nat} {l:List DoI} {s:Fs} {v:Value} {w:World}
def dos (l:List DoI):List Value:=l.flatMap fun x=>[.int .i64 x.K,.int .i64 x.A,.int .i64 x.B,.int .i64 x.C,.string x.S]
def oN (w:World) (v:Value) (l:List DoI):Prop:=xT w v 5 l.length (dos l)
theorem iQ (l:List DoI) (k:Nat) (b:k<l.length):(dos l)[k*5]?=some (.int .i64 l[k].K)/\(dos l)[k*5+1]?=some (.int .i64 l[k].A)/\(dos l)[k*5+2]?=some (.int .i64 l[k].B)/\(dos l)[k*5+3]?=some (.int .i64 l[k].C)/\(dos l)[k*5+4]?=some (.string l[k].S):=by
 induction l generalizing k with
 | nil=>simp at b
 | cons x l a=>
  cases k with
  | zero=>simp[dos]
  | succ k=>
   have:=a k (by simpa using b);have e:∀j,(dos (x::l))[j+5]?=(dos l)[j]? :=fun j=>rfl;rw[show (k+1)*5=k*5+5 by omega,show k*5+5+1=k*5+1+5 by omega,show k*5+5+2=k*5+2+5 by omega,show k*5+5+3=k*5+3+5 by omega,show k*5+5+4=k*5+4+5 by omega,e,e,e,e,e];exact this
theorem LT (h:oN w v l) (N:Nat) (q:N=l.length):∃p cp,v=.slice p N cp/\(0<N->∃g o,p=some ⟨g,o,none⟩/\g<w.heap.size/\∀k (hk:k<l.length),w.cell? ⟨g,o+k*5,none⟩=some (.int .i64 l[k].K)/\w.cell? ⟨g,o+(k*5+1),none⟩=some (.int .i64 l[k].A) /\
 w.cell? (g,o+(k*5+2))=some (.int .i64 l[k].B)/\w.cell? (g,o+(k*5+3))=some (.int .i64 l[k].C)/\w.cell? (g,o+(k*5+4))=some (.string l[k].S)):=by
 subst q;obtain⟨_,⟨c,d,e,rfl⟩|⟨g,o,b,rfl,a⟩⟩:=h
 .exact⟨d,e,by rw[c],fun h=>by omega⟩
 .refine⟨_,b,rfl,fun c=>⟨g,o,rfl,zG (a _ _ (iQ l 0 c).1),fun k hk=>?_⟩⟩;obtain⟨j,f,n,i,m⟩:=iQ l k hk;exact⟨a _ _ j,a _ _ f,a _ _ n,a _ _ i,a _ _ m⟩
def qV (x:DoI):Bool:=decide (300<x.S.size)
def je (l:List DoI):Bool:=decide (l.length<=40)&&!(l.any qV)
theorem QR (h:je l=true):l.length<=40/\∀x∈l,x.S.size<=300:=by unfold je at h;rw[yM,xo,ub,tb]at h;refine⟨h.1,fun x a=>?_⟩;have:=h.2 x a;unfold qV at this;simpa using this
theorem S7 (x:DoI) (w:World) (f:x.S.size<=maxLen):
 Calls prog 20 #[.agg #[x.K,x.A,x.B,x.C,.string x.S]] w fun e w'=>e=.returned (.bool (qV x))/\Below w w w':=by
 unfold maxLen at f;obtain⟨c,A,B,C,S⟩:=x;simp only at f;by_cases d:300<S.size
 .have b:Hid (qV ⟨c,A,B,C,S⟩=true):=by show _=_;simp[qV,d]
  have a:(300:Int)<(S.size:Int):=by omega
  go_enter func20,ntmps20
  go_wp2;go_ret;rw[b.o];exact⟨by simp,zB.alloc zL _⟩
 .have b:Hid (qV ⟨c,A,B,C,S⟩=false):=by show _=_;simp[qV,d]
  have a:¬(300:Int)<(S.size:Int):=by omega
  go_enter func20,ntmps20
  go_wp2;go_ret;rw[b.o];exact⟨by simp,zB.alloc zL _⟩
theorem NB (v:Value) (l:List DoI) (w:World) (h:oN w v l) (hl:l.length<=1000000) (hs:∀x,x∈l->x.S.size<=maxLen):
 Calls prog 59 #[v,.func (.func 20) #[] #[]] w (fun e w'=>∃r:Int,e=.returned r/\(0<=r↔l.any qV=true)/\Below w w w'):=by
 obtain⟨N,n⟩:=zA l.length;obtain⟨p,cp,V,F⟩:=LT h N n.o;rw[<-n.o]at hl;subst V;have Y:=Lib.hid F;have U:=Lib.hid hs;clear F hs h;go_enter func59,ntmps59;go_wp2;go_loopw [8] (fun i wr=>∃k:Nat,k<=N/\i=.int .i64 k/\Hid ((l.take k).any qV=false)/\Below w w wr) (fun i _=>N-(intOf i).toNat);case atStart=>exact⟨0,ye _,rfl,rfl,zB⟩
 case round=>
  obtain⟨k,hk,rfl,G,b⟩:=hrel;by_cases q:k<N
  .obtain⟨g,o,rfl,f,I⟩:=Y.o (by omega);have a:k<l.length:=(by rw[<-n.o];exact q);obtain⟨s,D,t,z,y⟩:=I k a;obtain⟨x,m⟩:=zD (l[k]);rw[m.o]at s D t z y;have c1:=(b.cell (p:=⟨g,o+k*5,none⟩) f).trans s;have O:=(b.cell (p:=⟨g,o+(k*5+1),none⟩) f).trans D;have Q:=(b.cell (p:=⟨g,o+(k*5+2),none⟩) f).trans t;have X:=(b.cell (p:=⟨g,o+(k*5+3),none⟩) f).trans z;have R:=(b.cell (p:=⟨g,o+(k*5+4),none⟩) f).trans y;rw[<-yA]at O Q X R;have u:Hid (x.S.size<=maxLen):=(by rw[<-m.o];exact U.o _ (zz a));have Z:Hid ((l.take (k+1)).any qV=qV x):=(by rw[<-zY a,List.any_append,G.o,m.o];show _=_;simp);have M:Hid (qV x=true->l.any qV=true):=fun J=>(by rw[xX];exact⟨l[k],zz a,by rw[m.o];exact J⟩);have T:=Lib.hid (fun W=>S7 x W u.o);obtain⟨L,A,B,C,S⟩:=x;clear I s D t z y;have H:(k:Int)<(N:Int):=(by omega);go_wp2_with fail
   refine (T.o _).mono ?_;generalize j:qV ⟨L,A,B,C,S⟩=P;have c:=Lib.hid j;clear j;rintro e w1 ⟨rfl,E⟩;have d:=Below.step b E;cases P with
   | true=>
    go_wp2;go_ret;exact⟨k,rfl,⟨fun _=>M.o c.o,fun _=>by omega⟩,d⟩
   | false=>
    go_wp2;go_roundw;case rel=>exact⟨k+1,by omega,by go_num,Z.o.trans c.o,d⟩
    case measure=>simp[intOf];omega
  .have K:Hid (l.any qV=false):=(by have:=G.o;rw[zv (by rw[<-n.o];omega)]at this;exact this);go_wp2;go_ret;exact⟨-1,rfl,⟨fun h=>by omega,fun h=>by rw[K.o]at h;cases h⟩,b⟩
theorem I4 (v:Value) (l:List DoI) (w:World) (h:oN w v l) (g:l.length<=1000000) (f:∀x,x∈l->x.S.size<=maxLen):
 Calls prog 19 #[v,.func (.func 20) #[] #[]] w fun e w'=>e=.returned (.bool (l.any qV))/\Below w w w':=by
 have H:=Lib.hid (NB _ l _ h g f);clear h f;go_enter func19,ntmps19;go_wp2_with fail
 refine H.o.mono ?_;rintro e d ⟨r,rfl,a,b⟩;have c:=Lib.hid a;clear a;go_wp2;go_ret;refine⟨?_,b⟩;have:l.any qV=decide (0<=r):=by rw[l8];simp[c.o]
 rw[this];rfl
theorem QQ (v:Value) (l:List DoI) (w:World) (h:oN w v l) (r:l.length<=maxLen) (s:∀x,x∈l->x.S.size<=maxLen):
 Calls prog 5 #[v] w fun e w'=>e=.returned (.bool (je l))/\Below w w w':=by
 unfold maxLen at r;obtain⟨N,c⟩:=zA l.length;obtain⟨p,q,j,i⟩:=LT h N c.o;rw[<-c.o]at r;subst j;have H:=Lib.hid h;have k:=Lib.hid s;clear i s h;by_cases a:N<=40
 .have d:Hid (je l = !(l.any qV)):=by show _=_;unfold je;rw[<-c.o];simp[a]
  have b:(N:Int)<=40:=by omega
  go_enter func5,ntmps5
  go_wp2_with fail
  refine (I4 _ l _ H.o (by rw[<-c.o];omega) k.o).mono ?_;generalize f:l.any qV=m at d ⊢;rintro e n ⟨rfl,g⟩;clear f;go_wp2;go_ret;rw[d.o];exact⟨rfl,g⟩
 .have d:Hid (je l=false):=by show _=_;unfold je;rw[<-c.o];simp[a]
  have b:¬(N:Int)<=40:=by omega
  go_enter func5,ntmps5
  go_wp2;go_ret;rw[d.o];exact⟨rfl,zB⟩
theorem Sp (S:ByteArray):(strI S).length=S.size:=by unfold strI;rw[yw,yp];rfl
theorem do_any (h:FsAt w gf s F a) (hd:fW s) (x:DoI) (hl:0<(qX s).length/\(qX s).length<=64) (aa:DlOk s (qX s)) (ad:DoOk s x):
 Calls prog 21 #[(gf,()),.agg #[x.K,x.A,x.B,x.C,.string x.S]] w (fun e w'=>e=.returned (.int .i64 (doM s x).1)/\uk w gf (doM s x).2 F a w'):=by
 have H:=Lib.hid h;have HD:=Lib.hid hd;obtain⟨X,A,B,C,S⟩:=x;have v:=Lib.hid ad;clear ad;obtain⟨R,HR⟩:=zD (doM s ⟨X,A,B,C,S⟩);rw[HR.o];obtain⟨re,rs⟩:=R;have bq:Hid (Below w w (w.alloc (.cells #[X,A,B,C,.string S] 53))):=zB.alloc zL _;have bs:Hid ((w.alloc (.cells #[X,A,B,C,.string S] 53)).heap[w.heap.size]?=some (.cells #[X,A,B,C,.string S] 53)):=zH;have aS:=Lib.hid (R6 (h.below bq.o) hd);obtain⟨L,HL⟩:=zD ((qX s).length);have bN:0<L:=by rw[<-HL.o];exact hl.1
 have ci:L<=64:=by rw[<-HL.o];exact hl.2
 obtain⟨ay,aJ⟩:=zD (qX s);have bo:=Lib.hid aa;rw[aJ.o]at aS HL bo;rw[HL.o]at aS;have b0:((L:Int)==0)=false:=by simp;omega
 have bj:=ro A L (by omega) (by omega);have be:=ro B L (by omega) (by omega);obtain⟨ia,aQ⟩:∃n:Nat,pk A L=(n:Int):=⟨(pk A L).toNat,by omega⟩;obtain⟨ib,aV⟩:∃n:Nat,pk B L=(n:Int):=⟨(pk B L).toNat,by omega⟩;have bB:=Lib.hid (fun W=>og A L W (by omega) (by omega));have bu:=Lib.hid (fun W=>og B L W (by omega) (by omega));rw[aQ]at bB bj;rw[aV]at bu be;have br:ia<L:=by omega
 have bd:ib<L:=by omega
 clear h hd hl aa;go_enter func21,ntmps21;go_wp2_with fail
 refine aS.o.mono ?_;rintro e w2 ⟨v2,rfl,aT,aE⟩;obtain⟨g2,c2,bU,cB,_⟩:=aT.form bN;subst bU;have bR:Hid (Below w w w2):=Below.step bq.o aE;have ab:Hid (w2.heap[w.heap.size]?=some (.cells #[X,A,B,C,.string S] 53)):=we aE bs.o;have aY:∀r,r<L->∃n:Nat,n<32/\ay.getD r 0=(n:Int)+1/\(s.nodes.getD n zN).k=2/\w2.cell? ⟨g2,r,none⟩=some (.int .i64 ((n:Int)+1)):=fun r hr=>by
  have aN:r<ay.length:=by rw[HL.o];exact hr
  obtain⟨n1,n2,n3⟩:=bo.o _ (zz aN);have bM:ay.getD r 0=ay[r]:=by rw[zh,zf aN];rfl
  refine⟨(ay[r]-1).toNat,by omega,by rw[bM];omega,n3,?_⟩;have:=aT.cells (g:=g2) rfl r (.int .i64 ay[r]) (by unfold ints;rw[xy,zf aN];rfl);have aK:(⟨g2,0,none⟩:Addr).add r=⟨g2,r,none⟩:=by unfold Addr.add;split<;>simp_all
  rw[aK]at this;rw[this]
  congr 2
  omega
 obtain⟨i,b3,b4,b7,bl⟩:=aY ia br;obtain⟨j,bc,bg,bk,bn⟩:=aY ib bd;have bf:=HD.o.1 i b3 b7;have b1:=HD.o.1 j bc bk;have aq:=Lib.hid bf;have b2:=Lib.hid b1;have I:Hid (atN s A=i/\atN s B=j):=by unfold atN;rw[aJ.o,HL.o,aQ,aV,yy,yy,b4,bg];constructor<;>omega
 have bZ:=Lib.hid aE;have r0:w2.cell? (w.heap.size,0)=some (.int .i64 X):=by rw[zC ab.o];rfl
 have r1:w2.cell? (w.heap.size,1)=some (.int .i64 A):=by rw[zC ab.o];rfl
 have r2:w2.cell? (w.heap.size,2)=some (.int .i64 B):=by rw[zC ab.o];rfl
 have k1:=cell_regrown r1;have k2:=cell_regrown r2;have k3:=cell_regrown bl;have k4:=cell_regrown bn;have bT:(ia:Int)<(L:Int):=by omega
 have bX:(ib:Int)<(L:Int):=by omega
 clear aT aE aY bf b1 b7 bk b4 bg aQ aV bj be;go_wp2_with fail
 refine wp_region_quiet_below (by kernel_rfl) (by kernel_rfl) ?_
 repeat (first
  | go_big_quiet_skip
  | (refine qD 9 #[.tmp 18,.tmp 20] #[3,3] rfl rfl (fun _ _=>by kernel_rfl) #[A,L] (by kernel_rfl) (.int .i64 (ia:Int)) (fun _ _=>qk) (fun w' _=>(bB.o w').mono fun e w2 ⟨he,an⟩=>⟨he,an▸zB⟩) ?_;simp only[Act.put,zM,yj,yh])
  | (refine qD 9 #[.tmp 26,.tmp 28] #[3,3] rfl rfl (fun _ _=>by kernel_rfl) #[B,L] (by kernel_rfl) (.int .i64 (ib:Int)) (fun _ _=>qk) (fun w' _=>(bu.o w').mono fun e w2 ⟨he,an⟩=>⟨he,an▸zB⟩) ?_;simp only[Act.put,zM,yj,yh])
  | (go_big_quiet_want;go_big_quiet_op;go_big_quiet_on))
 refine vq ?_;intro w3 aU;have bt:Hid (Below w w w3):=Below.step bR.o (sL aU);have ap:Hid (w3.heap[w.heap.size]?=some (.cells #[X,A,B,C,.string S] 53)):=we (sL aU) ab.o;clear r0 r1 r2 k1 k2 k3 k4 aU bl bn;have N:Hid (∀W:World,Below w3 w3 W->W.cell? (w.heap.size,0)=some (.int .i64 X)/\W.cell? (w.heap.size,1)=some (.int .i64 A)/\W.cell? (w.heap.size,2)=some (.int .i64 B)/\W.cell? (w.heap.size,3)=some (.int .i64 C)/\W.cell? (w.heap.size,4)=some (.string S)):=fun W hW=>by have p:=we hW ap.o;refine⟨?_,?_,?_,?_,?_⟩<;>(rw[zC p];rfl)
 have u:Hid (∀(y:Int) (W:World),Calls prog 61 #[y] W (fun e w'=>e=.returned (.string (nmOf y))/\Below W W w')):=fun y W=>U0 y W;have a4:Hid (∀W:World,Below w w W->Calls prog 17 #[(gf,()),.int .i64 ((i:Int)+1),.string (nmOf B)] W (fun e w'=>e=.returned (.tuple #[.int .i64 (vz (dirB s i) (nmOf B)).1,.int .i64 (vz (dirB s i) (nmOf B)).2.2])/\Below W W w')):=fun W hW=>Xf (H.o.below hW) i _ _ aq.o (nmOf B) (lM B);have bp:Hid ((vz (dirB s i) (nmOf B)).2.2=0\/(vz (dirB s i) (nmOf B)).2.2=4/\(vz (dirB s i) (nmOf B)).1=0):=gZ (D:=dirB s i) (n:=(dirB s i).length / 16) (name:=nmOf B) 7 0 0;have aI:Hid ((vz (dirB s i) (nmOf B)).2.2=0->1<=(vz (dirB s i) (nmOf B)).1/\(vz (dirB s i) (nmOf B)).1<=32):=Vu aq.o.ok;have f:Hid (inoN s ⟨X,A,B,C,S⟩=(vz (dirB s i) (nmOf B)).1):=by show _=_;unfold inoN;rw[I.o.1]
 obtain⟨⟨ri,rl,rr⟩,Hr⟩:∃r,Hid (vz (dirB s i) (nmOf B)=r):=⟨_,Lib.hid rfl⟩;rw[Hr.o]at a4 bp aI f;obtain⟨c0,c1,c2,c3,c4⟩:=N.o w3 zB;go_wp2_with fail
 refine (u.o B w3).mono ?_;rintro e w4 ⟨rfl,bC⟩;have bz:Hid (Below w3 w3 w4):=bC;clear bC;go_wp2_with fail
 refine (a4.o w4 (Below.step bt.o bz.o)).mono ?_;rintro e J ⟨rfl,b6⟩;have ah:Hid (Below w3 w3 J):=Below.step bz.o b6;have t:Hid (Below w w J):=Below.step bt.o ah.o;clear b6 c0 c1 c2 c3 c4;have bi:ri=0\/∃n:Nat,n<32/\ri=(n:Int)+1:=by
  rcases bp.o with p|p
  .have h2:=aI.o p;have h3:1<=ri:=h2.1;have h4:ri<=32:=h2.2;exact zu ⟨(ri-1).toNat,by omega,by omega⟩
  .exact zt p.2
 have aG:=Lib.hid bi;clear bi;have b8:=ro X 12 (by omega) (by omega);obtain⟨kx,aP⟩:∃n:Nat,pk X 12=(n:Int):=⟨(pk X 12).toNat,by omega⟩;have bm:=Lib.hid (og X 12 J (by omega) (by omega));rw[aP]at bm b8;have b5:kx<12:=by omega
 have d:=Lib.hid aP;clear aP b8;obtain⟨c0,c1,c2,c3,c4⟩:=N.o J ah.o;go_wp2_with fail
 refine bm.o.mono ?_;rintro e w6 ⟨rfl,rfl⟩;have bO:kx=0\/kx=1\/kx=2\/kx=3\/kx=4\/kx=5\/kx=6\/kx=7\/kx=8\/kx=9\/kx=10\/kx=11:=by omega
 clear b5;rcases bO with rfl|rfl|rfl|rfl|rfl|rfl|rfl|rfl|rfl|rfl|rfl|rfl
 .obtain⟨M,T⟩:=zD (addM s i (dirB s i) (nmOf B) 1 420 (pk C 3) 0 []);obtain⟨⟨ra,rb⟩,Z⟩:=M;have hm:((rb,Z):Int×Fs)=(re,rs):=by rw[<-HR.o];unfold doM;rw[d.o];show _=((addM s (atN s A) (dirB s (atN s A)) (nmOf B) 1 420 (pk C 3) 0 []).1.2,(addM s (atN s A) (dirB s (atN s A)) (nmOf B) 1 420 (pk C 3) 0 []).2);rw[I.o.1,T.o]
  injection hm with m1 m2;subst m1 m2;have G:=ro C 3 (by omega) (by omega);have z:=Lib.hid (fun W=>og C 3 W (by omega) (by omega));have c:Hid (∀W:World,Below w w W->Calls prog 7 #[(gf,()),.int .i64 ((i:Int)+1),.string (nmOf B),(1:Int),(420:Int),.int .i64 (pk C 3),()] W (fun e w'=>e=.returned (.tuple #[ra,rb])/\uk w gf Z F a w')):=fun W hW=>by have b:=Vs (H.o.below hW) i _ _ aq.o (nmOf B) (lM B) 1 420 (pk C 3) 0 (zt rfl) (by omega) (by omega) (by omega) (by have p:=v.o.c0 d.o;rw[show atN s (DoI.mk X A B C S).A=i from I.o.1]at p;exact p);rw[T.o]at b;exact b.mono fun e w' ⟨p,h2⟩=>⟨p,h2.after hW⟩
  clear G;go_wp2_with fail
  go_region_with (first
   | (go_at_call 61;refine (u.o B _).mono ?_;rintro e wn ⟨rfl,ak⟩;have Q:=Below.step (lw (xW J J) 1) ak;have aw:Hid (Below w w wn):=Below.step t.o Q;obtain⟨d0,d1,d2,d3,d4⟩:=N.o wn (Below.step ah.o Q);clear ak Q)
   | (go_at_call 9;refine (z.o _).mono ?_;rintro e wp ⟨rfl,ae⟩;subst ae)
   | (go_at_call 7;refine (c.o _ aw.o).mono ?_;rintro e Y ⟨rfl,m⟩;have E:=Lib.hid m;clear m))
  all_goals
   go_wp2;go_ret;exact⟨rfl,E.o⟩
 .obtain⟨M,T⟩:=zD (addM s i (dirB s i) (nmOf B) 2 493 (pk C 3) 0 []);obtain⟨⟨ra,rb⟩,Z⟩:=M;have hm:((rb,Z):Int×Fs)=(re,rs):=by rw[<-HR.o];unfold doM;rw[d.o];show _=((addM s (atN s A) (dirB s (atN s A)) (nmOf B) 2 493 (pk C 3) 0 []).1.2,(addM s (atN s A) (dirB s (atN s A)) (nmOf B) 2 493 (pk C 3) 0 []).2);rw[I.o.1,T.o]
  injection hm with m1 m2;subst m1 m2;have G:=ro C 3 (by omega) (by omega);have z:=Lib.hid (fun W=>og C 3 W (by omega) (by omega));have c:Hid (∀W:World,Below w w W->Calls prog 7 #[(gf,()),.int .i64 ((i:Int)+1),.string (nmOf B),(2:Int),(493:Int),.int .i64 (pk C 3),()] W (fun e w'=>e=.returned (.tuple #[ra,rb])/\uk w gf Z F a w')):=fun W hW=>by have b:=Vs (H.o.below hW) i _ _ aq.o (nmOf B) (lM B) 2 493 (pk C 3) 0 (zu rfl) (by omega) (by omega) (by omega) (by have p:=v.o.c1 d.o;rw[show atN s (DoI.mk X A B C S).A=i from I.o.1]at p;exact p);rw[T.o]at b;exact b.mono fun e w' ⟨p,h2⟩=>⟨p,h2.after hW⟩
  clear G;go_wp2_with fail
  go_region_with (first
   | (go_at_call 61;refine (u.o B _).mono ?_;rintro e wn ⟨rfl,ak⟩;have Q:=Below.step (lw (xW J J) 1) ak;have aw:Hid (Below w w wn):=Below.step t.o Q;obtain⟨d0,d1,d2,d3,d4⟩:=N.o wn (Below.step ah.o Q);clear ak Q)
   | (go_at_call 9;refine (z.o _).mono ?_;rintro e wp ⟨rfl,ae⟩;subst ae)
   | (go_at_call 7;refine (c.o _ aw.o).mono ?_;rintro e Y ⟨rfl,m⟩;have E:=Lib.hid m;clear m))
  all_goals
   go_wp2;go_ret;exact⟨rfl,E.o⟩
 .have G:=ro C 512 (by omega) (by omega);have z:=Lib.hid (fun W=>og C 512 W (by omega) (by omega));obtain⟨sz,ao⟩:∃n:Nat,pk C 512=(n:Int):=⟨(pk C 512).toNat,by omega⟩;rw[ao]at z G;have bQ:S.size<=300:=v.o.len;have ct:=Sp S;have cu:=tN (P:=prog) J.drew 9 23 5 S uD uY vP;have a6:Below J J (Lib.bytesWorld J.drew 5 S):=Below.step (lw (xW J J) 1) (Kv J.drew S);have aR:=kR J.drew S;have aX:=Lib.hid (Below.step t.o a6);obtain⟨_,_,_,m3,m4⟩:=N.o (Lib.bytesWorld J.drew 5 S) (Below.step ah.o a6);have V:Hid (¬F w.heap.size/\w.heap.size<(Lib.bytesWorld J.drew 5 S).heap.size):=⟨fun hc=>Nat.lt_irrefl _ (H.o.fin _ hc),zm (zm (xL ap.o) ah.o.size) a6.size⟩;rcases aG.o with hr|⟨n,U,hr⟩
  .subst hr;have hm:((4,s):Int×Fs)=(re,rs):=by
    rw[<-HR.o];unfold doM;rw[d.o];show _=if inoN s _=0 then _ else _
    rw[f.o,ze rfl]
   injection hm with m1 m2;subst m1 m2;have c:=Lib.hid (PZ (gf:=gf) (Lib.bytesWorld J.drew 5 S) sz (J.drew.heap.size,0,S.size,(grownCap J.drew S.size 0 5)));clear aR a6 G;go_wp2_with fail
   refine vZ ?_
   go_region_held_law (fun w'=>w'.cell? (w.heap.size,3)=some (.int .i64 C)/\w'.cell? (w.heap.size,4)=some (.string S))
    (first
     | exact⟨c3,c4⟩
     | exact⟨m3,m4⟩
     | exact⟨n3,n4⟩
     | (go_keep;done))
    (first
    | (go_at_call 9;refine (z.o _).mono ?_;rintro e wp ⟨rfl,ae⟩;subst ae)
    | (go_at_call 10;refine c.o.mono ?_;rintro e Y ⟨rfl,rfl⟩;have E:Hid (uk w gf s F a (Lib.bytesWorld J.drew 5 S)):=uk.same H.o aX.o))
   all_goals
    refine uz ?_;go_wp2;go_ret;exact⟨rfl,E.o⟩
  subst hr;have l:¬(n:Int)+1=0:=by omega
  have en:((n:Int)+1-1).toNat=n:=by omega
  obtain⟨M,T⟩:=zD (wrtM s n sz (strI S));obtain⟨⟨ra,rb⟩,Z⟩:=M;have hm:((rb,Z):Int×Fs)=(re,rs):=by
   rw[<-HR.o];unfold doM;rw[d.o];show _=if inoN s _=0 then _ else _
   rw[f.o,zb l,en];show _=((wrtM s n (pk C 512).toNat (strI S)).1.2,(wrtM s n (pk C 512).toNat (strI S)).2);rw[ao,yy,T.o]
  injection hm with m1 m2;subst m1 m2;have b:=Kg (H.o.below aX.o) n U sz (by omega) (J.drew.heap.size,0,S.size,(grownCap J.drew S.size 0 5)) (strI S) aR (by omega) (by have p:=v.o.c2 d.o (by rw[f.o];exact l);rw[f.o,en]at p;rw[show (pk (DoI.mk X A B C S).C 512).toNat=sz by show (pk C 512).toNat=sz;rw[ao];exact yy _]at p;exact p);rw[T.o]at b;have c:=Lib.hid b;clear b aR a6 G;go_wp2_with fail
  refine vZ ?_
  go_region_held_law (fun w'=>w'.cell? (w.heap.size,3)=some (.int .i64 C)/\w'.cell? (w.heap.size,4)=some (.string S))
   (first
    | exact⟨c3,c4⟩
    | exact⟨m3,m4⟩
    | exact⟨n3,n4⟩
    | (go_keep;done))
   (first
   | (go_at_call 9;refine (z.o _).mono ?_;rintro e wp ⟨rfl,ae⟩;subst ae)
   | (
    go_at_call 10;refine c.o.mono ?_;rintro e Y ⟨rfl,m⟩
    have k8:yK F (Lib.bytesWorld J.drew 5 S) Y:=m.choose_spec.2.2;have n3:=(k8.cell (i:=3) V.o.2 V.o.1).trans m3;have n4:=(k8.cell (i:=4) V.o.2 V.o.1).trans m4;have E:=Lib.hid (m.after aX.o);clear m k8))
  all_goals
   refine uz ?_;go_wp2;go_ret;exact⟨rfl,E.o⟩
 .have T:Hid (unlM s i (dirB s i) (nmOf B)=(re,rs)):=by show _=_;rw[<-HR.o];unfold doM;rw[d.o];show _=unlM s (atN s A) (dirB s (atN s A)) (nmOf B);rw[I.o.1]
  go_wp2_with fail
  refine (u.o B _).mono ?_;rintro e w7 ⟨rfl,aj⟩;have O:Hid (Below w w w7):=Below.step t.o aj;have b:=NK (H.o.below O.o) i _ _ aq.o (nmOf B) (lM B) (by have p:=v.o.c3 d.o;rw[show atN s (DoI.mk X A B C S).A=i from I.o.1]at p;exact p);rw[T.o]at b;have c:=Lib.hid b;clear aj b c0 c1 c2 c3 c4;go_wp2_with fail
  refine c.o.mono ?_;rintro e Y ⟨rfl,m⟩;have E:=Lib.hid (m.after O.o);clear m;go_wp2;go_ret;exact⟨rfl,E.o⟩
 .have T:Hid (movM s i j (dirB s i) (dirB s j) (nmOf C) (nmOf B)=(re,rs)):=by show _=_;rw[<-HR.o];unfold doM;rw[d.o];show _=movM s (atN s A) (atN s B) (dirB s (atN s A)) (dirB s (atN s B)) (nmOf C) (nmOf B);rw[I.o.1,I.o.2]
  have kB:=cell_regrown c2;have kC:=cell_regrown c3;have kS:=cell_regrown c4;go_wp2_with fail
  refine fF 9 (by kernel_rfl) (by kernel_rfl) ?_;simp only[wV,xE,wX,wz]
  repeat (first
   | go_big_quiet_skip
   | (refine qD 61 #[.tmp 114] #[3] rfl rfl (fun _ _=>by kernel_rfl) #[C] (by kernel_rfl) (.string (nmOf C)) (fun _ _=>qk) (fun w' _=>u.o C w') ?_;simp only[Act.put,zM,yj,yh])
   | (refine qD 61 #[.tmp 118] #[3] rfl rfl (fun _ _=>by kernel_rfl) #[B] (by kernel_rfl) (.string (nmOf B)) (fun _ _=>qk) (fun w' _=>u.o B w') ?_;simp only[Act.put,zM,yj,yh])
   | (go_big_quiet_want;go_big_quiet_op;go_big_quiet_on))
  refine vq ?_;intro w7 aA;have O:Hid (Below w w w7):=Below.step t.o (sL aA);clear aA c0 c1 c2 c3 c4 kB kC kS;have b:=Rx (H.o.below O.o) i _ _ aq.o j _ _ b2.o (nmOf C) (nmOf B) (lM C) (lM B) v.o.up (by have p:=v.o.c4 d.o;rw[show atN s (DoI.mk X A B C S).A=i from I.o.1,show atN s (DoI.mk X A B C S).B=j from I.o.2]at p;exact p);rw[T.o]at b;have c:=Lib.hid b;clear b;go_wp2_with fail
  refine c.o.mono ?_;rintro e Y ⟨rfl,m⟩;have E:=Lib.hid (m.after O.o);clear m;go_wp2;go_ret;exact⟨rfl,E.o⟩
 .have G:=ro C 512 (by omega) (by omega);have z:=Lib.hid (fun W=>og C 512 W (by omega) (by omega));obtain⟨sz,ao⟩:∃n:Nat,pk C 512=(n:Int):=⟨(pk C 512).toNat,by omega⟩;rw[ao]at z G;rcases aG.o with hr|⟨n,U,hr⟩
  .subst hr;have hm:((4,s):Int×Fs)=(re,rs):=by
    rw[<-HR.o];unfold doM;rw[d.o];show _=if inoN s _=0 then _ else _
    rw[f.o,ze rfl]
   injection hm with m1 m2;subst m1 m2;go_wp2_with fail
   refine (z.o _).mono ?_;rintro e w7 ⟨rfl,rfl⟩;have c:=Lib.hid (Tk (gf:=gf) J sz);go_wp2_with fail
   refine c.o.mono ?_;rintro e Y ⟨rfl,m⟩;have E:Hid (uk w gf s F a Y):=m▸uk.same H.o t.o;clear m;go_wp2;go_ret;exact⟨rfl,E.o⟩
  subst hr;have l:¬(n:Int)+1=0:=by omega
  have en:((n:Int)+1-1).toNat=n:=by omega
  have T:Hid (cutM s n sz=(re,rs)):=by
   show _=_;rw[<-HR.o];unfold doM;rw[d.o];show _=if inoN s _=0 then _ else _
   rw[f.o,zb l,en];show cutM s n sz=cutM s n (pk C 512).toNat;rw[ao,yy]
  go_wp2_with fail
  refine (z.o _).mono ?_;rintro e w7 ⟨rfl,rfl⟩;have b:=Tj (H.o.below t.o) n U sz (by omega) (by have p:=v.o.c5 d.o (by rw[f.o];exact l);rw[f.o,en]at p;rw[show (pk (DoI.mk X A B C S).C 512).toNat=sz by show (pk C 512).toNat=sz;rw[ao];exact yy _]at p;exact p);rw[T.o]at b;have c:=Lib.hid b;clear b;go_wp2_with fail
  refine c.o.mono ?_;rintro e Y ⟨rfl,m⟩;have E:=Lib.hid (m.after t.o);clear m;go_wp2;go_ret;exact⟨rfl,E.o⟩
 .have bv:=lM C;rcases aG.o with hr|⟨n,U,hr⟩
  .subst hr;have hm:((4,s):Int×Fs)=(re,rs):=by
    rw[<-HR.o];unfold doM;rw[d.o];show _=if inoN s _=0 then _ else _
    rw[f.o,ze rfl]
   injection hm with m1 m2;subst m1 m2;go_wp2_with fail
   refine (u.o C _).mono ?_;rintro e w7 ⟨rfl,aj⟩;have O:Hid (Below w w w7):=Below.step t.o aj;clear aj c0 c1 c2 c3 c4;have c:=Lib.hid (RA (gf:=gf) w7 ((j:Int)+1) (nmOf C) bv);go_wp2_with fail
   refine c.o.mono ?_;rintro e Y ⟨rfl,m⟩;have E:Hid (uk w gf s F a Y):=m▸uk.same H.o O.o;clear m;go_wp2;go_ret;exact⟨rfl,E.o⟩
  subst hr;have l:¬(n:Int)+1=0:=by omega
  have en:((n:Int)+1-1).toNat=n:=by omega
  have T:Hid (lnkM s j n (dirB s j) (nmOf C)=(re,rs)):=by
   show _=_;rw[<-HR.o];unfold doM;rw[d.o];show _=if inoN s _=0 then _ else _
   rw[f.o,zb l,en];show lnkM s j n (dirB s j) (nmOf C)=lnkM s (atN s B) n (dirB s (atN s B)) (nmOf C);rw[I.o.2]
  go_wp2_with fail
  refine (u.o C _).mono ?_;rintro e w7 ⟨rfl,aj⟩;have O:Hid (Below w w w7):=Below.step t.o aj;clear aj c0 c1 c2 c3 c4;have b:=Rz (H.o.below O.o) j _ _ b2.o (nmOf C) bv n U (by have p:=(v.o.c6 d.o (by rw[f.o];exact l)).1;rw[f.o,en]at p;exact p) (by have p:=(v.o.c6 d.o (by rw[f.o];exact l)).2;rw[f.o,en,show atN s (DoI.mk X A B C S).B=j from I.o.2]at p;exact p);rw[T.o]at b;have c:=Lib.hid b;clear b;go_wp2_with fail
  refine c.o.mono ?_;rintro e Y ⟨rfl,m⟩;have E:=Lib.hid (m.after O.o);clear m;go_wp2;go_ret;exact⟨rfl,E.o⟩
 .have G:=ro C 3 (by omega) (by omega);have z:=Lib.hid (fun W=>og C 3 W (by omega) (by omega));have bQ:S.size<=300:=v.o.len;have bw:((tS S).toList==[])=false:=by rw[xf];intro hc;have p:tS S=ByteArray.empty:=kJ (hc.trans (by kernel_rfl));have h2:=congrArg ByteArray.size p;unfold tS at h2;rw[ByteArray.size_append]at h2;have h3:(⟨#[116]⟩:ByteArray).size=1:=rfl;have h4:ByteArray.empty.size=0:=rfl;omega
  obtain⟨M,T⟩:=zD (symM s i (dirB s i) (nmOf B) (tS S) (pk C 3) 0);obtain⟨⟨ra,rb⟩,Z⟩:=M;have hm:((rb,Z):Int×Fs)=(re,rs):=by rw[<-HR.o];unfold doM;rw[d.o];show _=((symM s (atN s A) (dirB s (atN s A)) (nmOf B) (tS S) (pk C 3) 0).1.2,(symM s (atN s A) (dirB s (atN s A)) (nmOf B) (tS S) (pk C 3) 0).2);rw[I.o.1,T.o]
  injection hm with m1 m2;subst m1 m2;have c:Hid (∀W:World,Below w w W->Calls prog 66 #[(gf,()),.int .i64 ((i:Int)+1),.string (nmOf B),.string (tS S),.int .i64 (pk C 3),()] W (fun e w'=>e=.returned (.tuple #[ra,rb])/\uk W gf Z F a w')):=fun W hW=>by have b:=Tg (H.o.below hW) i _ _ aq.o (nmOf B) (lM B) (tS S) bw (pk C 3) 0 (by omega) (by omega) (by have p:=v.o.c7 d.o;rw[show atN s (DoI.mk X A B C S).A=i from I.o.1]at p;exact p);rw[T.o]at b;exact b
  have V:Hid (¬F w.heap.size/\w.heap.size<J.heap.size):=⟨fun hc=>Nat.lt_irrefl _ (H.o.fin _ hc),zm (xL ap.o) ah.o.size⟩;have aK:∀W:World,(Op.stringOp .add ⟨#[116]⟩ S).run prog W=.ok (.string (tS S)) W:=fun W=>run_string_add_sum W _ _ (by show 1+S.size<=_;omega);have cy:¬1+S.size > 9223372036854775807:=by omega
  have cq:¬9223372036854775807<1+S.size:=by omega
  have cn:¬(9223372036854775807:Int)<1+(S.size:Int):=by omega
  have cx:S.size+1<=9223372036854775807:=by omega
  clear G bw;go_wp2_with fail
  refine vZ ?_
  go_region_held_law (fun w'=>w'.cell? (w.heap.size,2)=some (.int .i64 B)/\w'.cell? (w.heap.size,3)=some (.int .i64 C)/\w'.cell? (w.heap.size,4)=some (.string S))
   (first
    | exact⟨c2,c3,c4⟩
    | exact⟨d2,d3,d4⟩
    | exact⟨n2,n3,n4⟩
    | (go_keep;done))
   (first
    | (go_at_call 61;refine (u.o B _).mono ?_;rintro e wn ⟨rfl,ak⟩;have Q:=Below.step (lw (xW J J) 1) ak;have aw:Hid (Below w w wn):=Below.step t.o Q;obtain⟨d0,d1,d2,d3,d4⟩:=N.o wn (Below.step ah.o Q);have aO:Hid (J.heap.size<=wn.heap.size):=Q.size;clear ak Q)
    | (go_at_call 9;refine (z.o _).mono ?_;rintro e wp ⟨rfl,ae⟩;subst ae)
    | (
     go_at_call 66;refine (c.o wn aw.o).mono ?_;rintro e Y ⟨rfl,m⟩
     have k8:yK F wn Y:=m.choose_spec.2.2;have n2:=(k8.cell (i:=2) (zm V.o.2 aO.o) V.o.1).trans d2;have n3:=(k8.cell (i:=3) (zm V.o.2 aO.o) V.o.1).trans d3;have n4:=(k8.cell (i:=4) (zm V.o.2 aO.o) V.o.1).trans d4;have E:=Lib.hid (m.after aw.o);clear m k8))
  all_goals
   refine uz ?_;go_wp2;go_ret;exact⟨rfl,E.o⟩
 .have G:=ro C 3 (by omega) (by omega);have z:=Lib.hid (fun W=>og C 3 W (by omega) (by omega));rcases aG.o with hr|⟨n,U,hr⟩
  .subst hr;have hm:((4,s):Int×Fs)=(re,rs):=by
    rw[<-HR.o];unfold doM;rw[d.o];show _=if inoN s _=0 then _ else _
    rw[f.o,ze rfl]
   injection hm with m1 m2;subst m1 m2;go_wp2_with fail
   refine (z.o _).mono ?_;rintro e w7 ⟨rfl,rfl⟩;have c:=Lib.hid (Lm (gf:=gf) J (pk C 3) 0 (by omega) (by omega));go_wp2_with fail
   refine c.o.mono ?_;rintro e Y ⟨rfl,m⟩;have E:Hid (uk w gf s F a Y):=uk.same H.o (Below.step t.o m);clear m;go_wp2;go_ret;exact⟨rfl,E.o⟩
  subst hr;have l:¬(n:Int)+1=0:=by omega
  have en:((n:Int)+1-1).toNat=n:=by omega
  have T:Hid (ownM s n (pk C 3) 0=(re,rs)):=by
   show _=_;rw[<-HR.o];unfold doM;rw[d.o];show _=if inoN s _=0 then _ else _
   rw[f.o,zb l,en]
  go_wp2_with fail
  refine (z.o _).mono ?_;rintro e w7 ⟨rfl,rfl⟩;have b:=Ll (H.o.below t.o) n U (pk C 3) 0 (by omega) (by omega) (by have p:=v.o.c8 d.o (by rw[f.o];exact l);rw[f.o,en]at p;exact p);rw[T.o]at b;have c:=Lib.hid b;clear b;go_wp2_with fail
  refine c.o.mono ?_;rintro e Y ⟨rfl,m⟩;have E:=Lib.hid (m.after t.o);clear m;go_wp2;go_ret;exact⟨rfl,E.o⟩
 .have T:Hid (pF s (pk B 3) (pk C 20-1)=(re,rs)):=by show _=_;rw[<-HR.o];unfold doM;rw[d.o];rfl
  have aM:=ro B 3 (by omega) (by omega);have G:=ro C 20 (by omega) (by omega);have iw:=zW (pk C 20-1);have kB:=cell_regrown c2;have kC:=cell_regrown c3;have kS:=cell_regrown c4;go_wp2_with fail
  refine fF 8 (by kernel_rfl) (by kernel_rfl) ?_;simp only[wV,xE,wX,wz]
  repeat (first
   | go_big_quiet_skip
   | (refine qD 9 #[.tmp 167,.const (.int .i64 3)] #[3,3] rfl rfl (fun _ _=>by kernel_rfl) #[B,(3:Int)] (by kernel_rfl) (.int .i64 (pk B 3)) (fun _ _=>qk) (fun w' _=>(og B 3 w' (by omega) (by omega)).mono fun e w2 ⟨he,an⟩=>⟨he,an▸zB⟩) ?_;simp only[Act.put,zM,yj,yh])
   | (refine qD 9 #[.tmp 170,.const (.int .i64 20)] #[3,3] rfl rfl (fun _ _=>by kernel_rfl) #[C,(20:Int)] (by kernel_rfl) (.int .i64 (pk C 20)) (fun _ _=>qk) (fun w' _=>(og C 20 w' (by omega) (by omega)).mono fun e w2 ⟨he,an⟩=>⟨he,an▸zB⟩) ?_;simp only[Act.put,zM,yj,yh])
   | (go_big_quiet_want;go_big_quiet_op;go_big_quiet_on))
  refine vq ?_;intro w7 aA;have O:Hid (Below w w w7):=Below.step t.o (sL aA);clear aA c0 c1 c2 c3 c4 kB kC kS;have b:=Lk (H.o.below O.o) (pk B 3) (pk C 20-1) v.o.q (by omega) (by omega) (v.o.c9 d.o);rw[T.o]at b;have c:=Lib.hid b;clear b;go_wp2_with fail
  refine c.o.mono ?_;rintro e Y ⟨rfl,m⟩;have E:=Lib.hid (m.after O.o);clear m;go_wp2;go_ret;exact⟨rfl,E.o⟩
 .have hm:((0,mB s):Int×Fs)=(re,rs):=by rw[<-HR.o];unfold doM;rw[d.o];rfl
  injection hm with m1 m2;subst m1 m2;obtain⟨o1,o2,o3,o4⟩:=v.o.c10 d.o;have c:=Lib.hid (iL (H.o.below t.o) o1 o2 o3 o4);clear o1 o2 o3 o4;go_wp2_with fail
  refine c.o.mono ?_;rintro e Y ⟨rfl,m,k8⟩;have E:Hid (uk w gf (mB s) F a Y):=⟨_,m,fun r hr=>hr.imp id fun h9=>zr t.o.size h9.1,(yK.of_below t.o).trans k8 fun r hr=>zt hr⟩;clear m k8;go_wp2;go_ret;exact⟨rfl,E.o⟩
 .have aM:=ro B 2 (by omega) (by omega);have G:=ro C 3 (by omega) (by omega);have a3:=Lib.hid (fun W=>og B 2 W (by omega) (by omega));have z:=Lib.hid (fun W=>og C 3 W (by omega) (by omega));have az:(if pk B 2=0 then ((lG s).1.2,(lG s).2) else js s (1+pk C 3).toNat)=(re,rs):=by rw[<-HR.o];unfold doM;rw[d.o];rfl
  by_cases ar:pk B 2=0
  .rw[ze ar]at az;injection az with m1 m2;subst m1 m2;rw[ar]at a3;clear ar aM G;go_wp2_with fail
   refine (a3.o _).mono ?_;rintro e w7 ⟨rfl,rfl⟩;have b:=Rw (H.o.below t.o) (v.o.c11 d.o);have c:=Lib.hid b;clear b c0 c1 c2 c3 c4;go_wp2_with fail
   refine c.o.mono ?_;rintro e Y ⟨rfl,m⟩;have E:=Lib.hid (m.after t.o);clear m;go_wp2;go_ret;exact⟨rfl,E.o⟩
  .rw[zb ar]at az;have b9:(pk B 2==0)=false:=(by simpa using ar);obtain⟨fk,bx⟩:∃n:Nat,1+pk C 3=(n:Int):=⟨(1+pk C 3).toNat,by omega⟩;have iw:IntKind.i64.wrap (1+pk C 3)=(fk:Int):=(by rw[zQ _ (by omega)];exact bx);have a7:(1+pk C 3).toNat=fk:=(by omega);rw[a7]at az;have b:=NL (H.o.below t.o) fk (by omega) (by omega) (by have p:=v.o.c12 d.o;rw[show (1+pk (DoI.mk X A B C S).C 3).toNat=fk from a7]at p;exact p);rw[az]at b;have c:=Lib.hid b;clear b ar aM G bx a7 az;go_wp2_with fail
   refine (a3.o _).mono ?_;rintro e w7 ⟨rfl,rfl⟩;go_wp2_with fail
   refine (z.o _).mono ?_;rintro e w7 ⟨rfl,rfl⟩;go_wp2_with fail
   refine c.o.mono ?_;rintro e Y ⟨rfl,m⟩;have E:=Lib.hid (m.after t.o);clear m;go_wp2;go_ret;exact⟨rfl,E.o⟩
def nb (l:List DoI):Fs:=l.foldl (fun s x=>(doM s x).2) (fs0 96)
theorem JF (l:List DoI) (x:DoI):nb (l++[x])=(doM (nb l) x).2:=by unfold nb;rw[xF];rfl
theorem iR (l:List DoI) (f:l.length<=1000) (d:∀x∈l,x.S.size<=300):∀k,k<=l.length->∃A,SI (nb (l.take k)) k A/\GI A fun _=>0
 | 0,_=>⟨jf,kD (by omega) (by omega),kE⟩
 | k+1,c=>by obtain⟨A,b,a⟩:=iR l f d k (by omega);have e:l.take (k+1)=l.take k++[l[k]]:=(zY (by omega)).symm;rw[e,JF];exact b.doM a (by omega) _ (d _ (zz _))
theorem do_SI {c:Nat} {A:Nat->AN} (h:FsAt w gf s F a) (j:SI s c A) (g:GI A fun _=>0) (k:c<=1000) (x:DoI) (l:x.S.size<=300):
 Calls prog 21 #[(gf,()),.agg #[x.K,x.A,x.B,x.C,.string x.S]] w (fun e w'=>e=.returned (.int .i64 (doM s x).1)/\uk w gf (doM s x).2 F a w'):=by
 have b:=j.dirsOk g;obtain⟨d,_,f,i⟩:=Xr b;exact do_any h b x ⟨f,by omega⟩ d (j.doOk g k x l)
theorem R4 (v:Value) (l:List DoI) (w:World) (h:oN w v l) (hl:l.length<=40) (hs:∀x∈l,x.S.size<=300):
 Calls prog 6 #[v] w (fun e w'=>∃gf a F,e=.returned (.tuple #[.pointer (some ⟨gf,0,none⟩),.pointer (some a)])/\FsAt w' gf (nb l) F a/\Below w w w'/\∀i,F i->w.heap.size<=i):=by
 obtain⟨N,s⟩:=zA l.length;obtain⟨p,cp,hv,hp⟩:=LT h N s.o;rw[<-s.o]at hl;subst hv;have HP:=Lib.hid hp;have HS:=Lib.hid hs;have L:=Lib.hid (X9 96 (by omega) (by omega) w);have H:=Lib.hid (iR l (by rw[<-s.o];omega) hs);have HM:Hid (nb l=nb (l.take N)):=by show _=_;rw[s.o,xN]
 rw[HM.o];clear hp hs h;go_enter func6,ntmps6;go_wp2_with fail
 refine L.o.mono ?_;rintro e w1 ⟨gf,a,F1,rfl,h1,z,r⟩;have H1:Hid (FsAt w1 gf (nb (l.take 0)) F1 a):=h1;have P:=Lib.hid z;have I:=Lib.hid r;clear h1 z r;go_wp2;go_loopw [16] (fun i wr=>∃k:Nat,k<=N/\i=.int .i64 k/\Hid (∃F,FsAt wr gf (nb (l.take k)) F a/\∀i,F i->w.heap.size<=i)/\Hid (Below w w wr)) (fun i _=>N-(intOf i).toNat);case atStart=>exact⟨0,ye _,rfl,⟨F1,H1.o,I.o⟩,P⟩
 case round=>
  obtain⟨k,hk,rfl,K,j⟩:=hrel;by_cases J:k<N
  .obtain⟨g,o,rfl,q,Z⟩:=HP.o (by omega);have f:k<l.length:=(by rw[<-s.o];exact J);obtain⟨U,Q,G,V,O⟩:=Z k f;obtain⟨x,T⟩:=zD (l[k]);rw[T.o]at U Q G V O;have c1:=(j.o.cell (p:=⟨g,o+k*5,none⟩) q).trans U;have c2:=(j.o.cell (p:=⟨g,o+(k*5+1),none⟩) q).trans Q;have c3:=(j.o.cell (p:=⟨g,o+(k*5+2),none⟩) q).trans G;have c4:=(j.o.cell (p:=⟨g,o+(k*5+3),none⟩) q).trans V;have c5:=(j.o.cell (p:=⟨g,o+(k*5+4),none⟩) q).trans O;rw[<-yA]at c2 c3 c4 c5;obtain⟨F,D,b⟩:=K.o;obtain⟨A0,m,n⟩:=H.o k (by omega);have u:x.S.size<=300:=(by rw[<-T.o];exact HS.o _ (zz f));have Y:nb (l.take (k+1))=(doM (nb (l.take k)) x).2:=(by rw[<-JF,<-T.o,zY f]);have d:=Lib.hid (fun (W:World) (hW:Below wr wr W)=>do_SI (D.below hW) m n (by omega) x u);rw[<-Y]at d;obtain⟨R,HR⟩:=zD (nb (l.take (k+1)));rw[HR.o]at d;have y:=Lib.hid b;obtain⟨kk,A,B,C,S⟩:=x;clear Z U Q G V O D b m n u Y K;have ah:(k:Int)<(N:Int):=(by omega);have t:Hid (Below wr wr (wr.alloc (.cells #[kk,A,B,C,.string S] 53))):=zB.alloc zL _;have E:=Lib.hid (d.o _ t.o);go_wp2_with fail
   refine E.o.mono ?_;rintro e w3 ⟨rfl,F3,X,f3,k3⟩;have c:Hid (Below w w (wr.alloc (.cells #[kk,A,B,C,.string S] 53))):=Below.step j.o t.o;have HX:Hid (∃F,FsAt w3 gf R F a/\∀i,F i->w.heap.size<=i):=⟨F3,X,fun i hi=>(f3 i hi).elim (y.o i) (fun h=>zr c.o.size h)⟩;have M:Hid (Below w w w3):=c.o.trans (k3.to_below y.o c.o.size);clear X f3 k3;go_wp2;go_roundw;case rel=>exact⟨k+1,by omega,by go_num,by rw[HR.o];exact HX,M⟩
   case measure=>simp[intOf];omega
  .obtain rfl:k=N:=(by omega);go_wp2;go_ret2;obtain⟨F,D,b⟩:=K.o;exact⟨gf,a,F,rfl,D,j.o,b⟩
theorem KQ {w':World} (h:vC w v D) (m:∀b,v.ownBlock=some b->¬F b) (n:yK F w w'):vC w' v D:=by obtain⟨k,i⟩:=h;refine⟨k,i.imp id ?_⟩;rintro ⟨g,c,d,rfl,e⟩;refine⟨g,c,d,rfl,fun j x f=>?_⟩;have a:=zG (e j x f);have l:=n.block g a (m g rfl);rw[<-e j x f];unfold World.cell?;simp only;rw[l]
theorem iq: prog.underlying 5=some (.int .u8):=by kernel_rfl
theorem gj: prog.underlying 9=some .string:=by kernel_rfl
theorem jV: prog.underlying 23=some (.slice 5):=by kernel_rfl
theorem Kr (l:List Int) (h:0<l.length) (e:vC w v l):(convert 23 9 v).run prog w=.ok (.string (sg l)) w:=by
 obtain⟨b,⟨d,_⟩|⟨g,o,c,rfl,a⟩⟩:=e
 .omega
 .exact ZB w _ _ _ g o c l.length l rfl jV iq gj a
theorem VX (n:Nat) (a:n<80):secE fs4 n=gS n:=Wy WW n a
theorem fDt_at (w:World):vC (w.alloc (.cells #[.int .u8 120,.int .u8 121,.int .u8 122] 5 (3,4))) (.slice (some ⟨w.heap.size,0,none⟩) 3 3) fDt:=
 qZ (by decide) (zH) rfl
theorem Qh (h:vC w v D) (f:0<D.length) (b:Nat) (i:v.ownBlock=some b):b<w.heap.size:=by
 obtain⟨_,⟨d,_⟩|⟨g,o,c,rfl,a⟩⟩:=h
 .omega
 .have e:g=b:=by simpa[Value.ownBlock]using i
  rw[<-e];exact zG (a 0 _ (sJ D 0 f))
theorem RR (j:Nat) (a:j<16):0<=fs2.fo.nd 0 j/\fs2.fo.nd 0 j<((80:Nat):Int):=by have:=WX.load.nds 0 j (by omega) a WX.load.root;omega
theorem IU: sQ (sec fdk'.N) (fs2.fo.nd 0) 32=fs2.nodes:=(JT RR (Wy WW)).trans JD
theorem KO: jk (sec fdk'.N) fs2.fo 80:=WX.congr (by omega) (Wy WW)
theorem NW: ∀X∈fs2.nodes,X.k=0\/X.l≠0:=by
 have h:(fs2.nodes.all fun X=>decide (X.k=0)||!decide (X.l=0))=true:=by kernel_rfl
 intro X a;have:=yU.1 h X a;simpa using this
theorem ZO (P:List Int) (p:Int) (h:P=[p]) (b:37<=p) (c:p<((80:Nat):Int)):∀q∈P,q=0\/(37<=q/\q<((80:Nat):Int)):=fun q a=>by rw[h]at a;rw[xw.1 a];exact zu ⟨b,c⟩
theorem MF: tc (secE fs4) fX0.P fX0.s=fD1:=(KV (ZO fX0.P 53 rfl (by omega) (by omega)) VX _).trans NV
theorem Lq: rz (tc (secE fs4) fX1.P fX1.s) 0 9=[0,0,0,120,121,122]:=by rw[KV (ZO fX1.P 54 rfl (by omega) (by omega)) VX];exact MG
theorem Of (w:World):Calls prog 4 #[] w (fun e w'=>e=.returned (.bool true)/\Below w w w'):=by
 have aC:=Lib.hid (X9 80 (by omega) (by omega) w);go_enter func4,ntmps4;go_wp2_with fail
 refine aC.o.mono ?_;rintro e w1 ⟨x,a,F1,rfl,h1,ar,ai⟩;have I:=Lib.hid ar;have H:=(kD (k:=80) (by omega) (by omega)).dirS kE (i:=0) (by omega) rfl;rw[SY]at H;have G:=Vs h1 0 _ _ H nmA (by kernel_rfl) 1 420 0 0 (zt rfl) (by omega) (by omega) (by omega) (fun _ n Q=>Og n Q);rw[Ii.1]at G;have aN:Hid (Calls prog 7 #[(x,()),(1:Int),.string ⟨#[97]⟩,(1:Int),(420:Int),(),()] w1
  (fun e w'=>e=.returned (.tuple #[(2:Int),()])/\uk w1 x fs1 F1 a w')):=G
 have X:=Lib.hid ai;clear h1 ar ai H G;go_wp2_with fail
 refine aN.o.mono ?_;rintro e U ⟨rfl,F2,h2,f2,k2⟩;have aq:Hid (∀i,F2 i->w.heap.size<=i):=fun i J=>(f2 i J).elim (X.o i) (fun h=>zr I.o.size h);have ac:Hid (Below w w U):=I.o.trans (k2.to_below X.o I.o.size);have aG:Hid (∀(W:World) (v:Value),Below U U W->tQ W v fDt->Calls prog 10 #[(x,()),(2:Int),(3:Int),v] W
  (fun e w'=>e=.returned (.tuple #[(3:Int),()])/\uk W x fs2 F2 a w')):=fun W v f hv=>by
  have hw:=Kg (h2.below f) 1 (by omega) 3 (by omega) v fDt hv (by decide) (fun _ _ _=>Od);rw[Ii.2]at hw;exact hw
 clear h2 k2 f2;have kc:=Lib.run_convert_bytes_const (P:=prog) U 23 5 #[.int .u8 120,.int .u8 121,.int .u8 122] 3 3 uY vP;go_wp2_with fail
 refine (aG.o _ _ (zB.alloc zL _) ?_).mono ?_
 .exact⟨fDt_at U,fun q n c h=>by injection h with h1 h2 R;omega⟩
 rintro e m ⟨rfl,F,R,f3,k3⟩;have A:Hid (Below w w (U.alloc (.cells #[.int .u8 120,.int .u8 121,.int .u8 122] 5 (3,4)))):=ac.o.alloc ac.o.size _;have HF:Hid (∀i,F i->w.heap.size<=i):=fun i J=>(f3 i J).elim (aq.o i) (fun h=>zr A.o.size h);have aM:Hid (Below w w m):=A.o.trans (k3.to_below aq.o A.o.size);have y:=Lib.hid R.fin;obtain⟨A2,B,aB⟩:=Oh;have aD:Hid (Calls prog 11 #[(x,()),(2:Int),(2:Int),(9:Int)] m
  (fun e w'=>∃v,e=.returned (.tuple #[v,()])/\vC w' v (rz (tc (secE fs2) fX1.P fX1.s) 2 9)/\(∀b,v.ownBlock=some b->m.heap.size<=b)/\Below m m w')):=
  Ig R B.byteE 1 (by omega) fX1 ZJ rfl (fun p hp=>by rw[xw.1 hp,fs2_k];exact⟨by decide,by decide⟩) (by decide) (by decide) 2 9 (by omega) (by omega) (by omega)
 have H3:=Lib.hid R;obtain⟨o1,o2,o3,o4⟩:=B.syncOk (by omega);have aQ:=Lib.hid (fun (W:World) (f:Below m m W)=>iL (R.below f) o1 o2 o3 o4);clear R k3 f3 o1 o2 o3 o4 B aB;go_wp2_with fail
 refine aD.o.mono ?_;rintro e w4 ⟨S,rfl,r,O,u⟩;rw[MH]at r;have aP:=Lib.hid r;have b8:=Lib.hid O;have aY:=Lib.hid (aQ.o w4 u);have ak:Hid (Below w w w4):=Below.step aM.o u;have ae:Hid (m.heap.size<=w4.heap.size):=u.size;have g:Hid (∀b,S.ownBlock=some b->m.heap.size<=b/\b<w4.heap.size):=fun b l=>⟨O b l,Qh r (by decide) b l⟩;clear r O u;go_wp2_with fail
 refine aY.o.mono ?_;rintro e w5 ⟨rfl,h5,k5⟩;obtain⟨⟨gl,rv,nv,bt,bh,E,tl,FD,g1,g2,g3,g4,g5,g6,g7,g8,g9,aH,ax,aW,aU,a9,ay,aE,a8⟩,a1,a2,a3,a4,a5,a6,a7⟩:=h5;have ah:=Lib.hid g3;have ab:uL w5 (.pointer (some a)) fs3.dk 80 FD:=by rw[show (mB fs2).k=80 from fs2_k]at g2;exact g2
 have aZ:=Lib.hid (Qa ab (.slice none 0 0) [] (fun w' _=>⟨rfl,zt ⟨rfl,none,0,rfl⟩⟩) (by simp));have t:=Lib.hid k5;clear ab g1 g2 g3 g4 g5 g6 g7 g8 g9 aH ax aW aU a9 ay aE a8 a1 a2 a3 a4 a5 a6 a7 k5;go_wp2_with fail
 refine aZ.o.mono ?_;rintro e w6 ⟨rfl,F6,d6,f6,k6⟩;have aX:Hid (Calls prog 16 #[.pointer (some a)] w6
  (fun e w'=>∃x F',e=.returned (.tuple #[.pointer (some ⟨x,0,none⟩),()])/\FsAt w' x fs4 F' a/\yK F6 w6 w'/\(∀i,F' i->F6 i\/w6.heap.size<=i))):=by
  have hd:=NX;simp only[yM,xo]at hd;obtain⟨⟨⟨⟨e1,e2⟩,e3⟩,e4⟩,e5⟩:=hd;have aK:sc (sec fdk'.N 4)=[]:=by rw[Wy WW 4 (by omega)];kernel_rfl
  have hm:=Y5 d6 (by omega) (by omega) fdk' (seqO fdk.N) (fun W f=>Y3 (by omega) (by omega) (d6.below f) (VB e2) (RF e3) (by show fdk.W.length<_;rw[e5];omega)) e1
   (fun n Q=>by rw[Wy WW n Q];exact Ym n Q) fs2.fo KO.load (by have:=KO.tree 0 (by omega) WX.load.root;obtain⟨_,h⟩:=this;exact h.tree) KO.quota
   (by rw[IU];exact NW)
  rw[aK]at hm;rw[IU]at hm;exact hm
 have L:=Lib.hid k6;have aj:=Lib.hid f6;clear d6 f6 k6;go_wp2_with fail
 refine aX.o.mono ?_;rintro e d ⟨an,F7,rfl,h7,k7,f7⟩;have K:=Lib.hid k7;have b6:=Lib.hid f7;have j:mf fs4:=fun n Q=>by rw[VX n Q];exact Ym n Q
 have C:=Xf h7 0 fX0 fD1 ⟨by omega,fs2_n0,rfl,by decide,fun p hp=>by rw[xw.1 hp];exact⟨by decide,by decide⟩,by decide,by decide,MF,kH.1,kH.2.1⟩ nmA (by kernel_rfl);rw[kH.2.2.1,kH.2.2.2]at C;have aO:Hid (Calls prog 17 #[(an,()),(1:Int),.string ⟨#[97]⟩] d (fun e w'=>e=.returned (.tuple #[(2:Int),()])/\Below d d w')):=C;have Z:Hid (∀W,Below d d W->Calls prog 11 #[(an,()),(2:Int),(),(9:Int)] W
  (fun e w'=>∃v,e=.returned (.tuple #[v,()])/\vC w' v (rz (tc (secE fs4) fX1.P fX1.s) 0 9)/\(∀b,v.ownBlock=some b->W.heap.size<=b)/\Below W W w')):=fun W f=>
  Ig (h7.below f) j 1 (by omega) fX1 ZJ rfl (fun p hp=>by rw[xw.1 hp];exact⟨by decide,by decide⟩) (by decide) (by decide) 0 9 (by omega) (by omega) (by omega)
 have aA:=Lib.hid (fun W (f:Below d d W)=>RB (h7.below f) j (WX.congr (by omega) VX));clear h7 k7 f7 j C;go_wp2_with fail
 refine aO.o.mono ?_;rintro e w8 ⟨rfl,V⟩;have ag:=Lib.hid V;clear V;go_wp2_with fail
 refine (Z.o w8 ag.o).mono ?_;rintro e T ⟨v9,rfl,M,aR,aa⟩;rw[Lq]at M;have D:Hid (Below d d T):=Below.step ag.o aa;have aV:Hid (∀W:World,Below T T W->(convert 23 9 v9).run prog W=.ok (.string ⟨#[0,0,0,120,121,122]⟩) W):=fun W f=>Kr [0,0,0,120,121,122] (by decide) (M.below f);have aL:Hid (∀W:World,Below d d W->(convert 23 9 S).run prog W=.ok (.string ⟨#[0,120,121,122]⟩) W):=fun W f=>by
  have z3:=ae.o;have z5:=t.o.size;have e5:vC w5 S [0,120,121,122]:=KQ aP.o (fun b l Y=>by have:=g.o b l;have:=y.o b Y;omega) t.o;have nD:∀b,S.ownBlock=some b->¬FD b:=fun b l Y=>by
   have:=g.o b l;rcases ah.o b Y with h|h
   .have:=y.o b h;omega
   .omega
  have e6:vC w6 S [0,120,121,122]:=KQ e5 nD L.o;have e7:vC d S [0,120,121,122]:=KQ e6 (fun b l Y=>by
   have:=g.o b l;rcases aj.o b Y with h|h
   .exact nD b l h
   .omega) K.o
  exact Kr [0,120,121,122] (by decide) (e7.below f)
 have h1:=aL.o T D.o;have h2:=aV.o T zB;have az:=Lib.hid (aA.o T D.o);clear M aR aa;go_wp2_with fail
 refine az.o.mono ?_;rintro e am ⟨rfl,z⟩;have al:Hid (Below d d am):=Below.step D.o z;clear z h1 h2;have aT:Hid (Below w w am):=by
  have z4:=ak.o.size;have z5:=t.o.size;have z6:=L.o.size;have z7:=K.o.size;have y5:=ak.o.trans (t.o.to_below HF.o (by omega));have nD:∀i,FD i->w.heap.size<=i:=fun i J=>by
   rcases ah.o i J with h|h
   .exact HF.o i h
   .omega
  have y6:=y5.trans (L.o.to_below nD (by omega));have y7:=y6.trans (K.o.to_below (fun i J=>(aj.o i J).elim (nD i) (fun h=>by omega)) (by omega));exact Below.step y7 al.o
 go_wp2;go_ret;exact⟨rfl,aT.o⟩
theorem Wm (l:List Int) (d:vC w v l):(convert 23 9 v).run prog w=.ok (.string (sg l)) w:=by
 by_cases h:0<l.length
 .exact Kr l h d
 .obtain rfl:l=[]:=yG.1 (by omega);obtain⟨_,⟨_,q,c,rfl⟩|⟨b,a,c,rfl,_⟩⟩:=d
  .rw[sM w 23 9 5 q 0 c jV iq gj];cases q<;>rfl
  .show (convert 23 9 (.slice (some (b,a)) 0 c)).run prog w=_;rw[sM w 23 9 5 (some (b,a)) 0 c jV iq gj];rfl
section
variable {w : World} {gf : Nat} {s : Fs} {F : Nat->Prop} {a : Addr} {c : Nat} {A : Nat->AN} {i : Nat}
theorem U4 (h:FsAt w gf s F a) (B:SI s c A) (g:GI A fun _=>0) (G:c<=1000) (name:ByteArray) (C:ru name=true) {u:Int} (E:0<=u/\u<=255):
 Calls prog 7 #[(gf,()),(1:Int),.string name,(1:Int),(420:Int),u,()] w
  (fun e w'=>∃n er s',e=.returned (.tuple #[.int .i64 n,.int .i64 er])/\uk w gf s' F a w'/\(er≠0\/er=0/\∃(m:Nat) (A':Nat->AN),n=(m:Int)+1/\m<32/\SI s' (c+1) A'/\(GI A' fun _=>0)/\(A' m).k=1/\(A' m).D=[])):=by
 have f:(1:Int)<=1/\(1:Int)<=3/\(0:Int)<=420/\(420:Int)<=511/\0<=u/\u<=255/\(0:Int)<=0/\(0:Int)<=255:=⟨by omega,by omega,by omega,by omega,E.1,E.2,by omega,by omega⟩;have x:(s.nodes.getD 0 zN).k=2:=(B.A_at (by omega)).1.trans g.root;have t:=Vs h 0 _ _ (B.dirS g (by omega) g.root) name C 1 420 u 0 (zt rfl) ⟨by omega,by omega⟩ E ⟨by omega,by omega⟩ (fun _ n r=>(B.add g G (by omega) g.root r f ⟨ye _,fun y p=>yb p yE⟩ (fun _=>rfl) name).1);refine t.mono fun e w' ⟨l,j⟩=>⟨_,_,_,l,j,?_⟩;rcases B.make3 g G f (dirB s 0) name with⟨_,b,_⟩|⟨n,A',q,b,d,v,o,z,i⟩
 .exact zt b
 .refine zu ⟨by rw[d],n,A',by rw[d],q,v,o,?_,?_⟩
  .rw[i];simp[entA,upA,newA,b]
  .rw[i];simp[entA,upA,newA,b]
theorem YE (h:FsAt w gf s F a) (u:SI s c A) (g:GI A fun _=>0) (y:c<=1000) (x:i<32) (t:(A i).k=1) {p:Nat} (C:p<=512) {Dt:List Int} (B:tQ w v Dt) (E:Dt.length<=512) (z:ue Dt):
 Calls prog 10 #[(gf,()),.int .i64 ((i:Int)+1),p,v] w
  (fun e w'=>∃n er s' A',e=.returned (.tuple #[.int .i64 n,.int .i64 er])/\uk w gf s' F a w'/\SI s' (c+1) A'/\(GI A' fun _=>0)/\(A' i).k=1/\(er≠0/\n=0/\(A' i).D=(A i).D\/er=0/\n=(Dt.length:Int)/\(A' i).D=(if Dt.length=0 then (A i).D else wrtB (A i).D Dt p))):=by
 have o:=Kg h i x p (by omega) v Dt B (by omega) (fun _ f b=>(u.write g y x t f b z).1);refine o.mono fun e w' ⟨m,f⟩=>?_;have d:SI s (c+1) A:=u.mono (by omega) (by have:=u.cc;omega);rcases u.wrt3 g y x t p z with⟨b,j,l⟩|⟨b,j,l⟩|⟨b,j,l,q,r⟩
 .exact⟨_,_,_,A,m,f,by rw[l];exact d,g,t,zt ⟨j,b,rfl⟩⟩
 .exact⟨_,_,_,A,m,f,by rw[l];exact d,g,t,zu ⟨by rw[b],by rw[b],by rw[ze j]⟩⟩
 .refine⟨_,_,_,_,m,f,q,r,?_,zu ⟨by rw[b],by rw[b],?_⟩⟩
  .simp[upA,t]
  .rw[zb (by omega)];simp[upA]
theorem UH (h:FsAt w gf s F a) (m:SI s c A) (n:i<32) (o:(A i).k=1):
 (A i).D.length<=512/\Calls prog 11 #[(gf,()),.int .i64 ((i:Int)+1),(),(512:Int)] w
  (fun e w'=>∃v,e=.returned (.tuple #[v,()])/\vC w' v (A i).D/\Below w w w'):=by
 have b:=oL ((m.tv []).ti.nd i n);have g:=m.A_at n;have f:=m.bytes n;have l:=m.size n;have d:(A i).D.length<=512:=by have j:(s.nodes.getD i zN).s<=512:=b.2.1;omega
 refine⟨d,?_⟩;have:=Ti h m.byteE i n _ (m.node n) (g.1.trans o) (m.pts n) (fld8 ((m.tv []).ti.nd i n)) ⟨b.1,b.2.1⟩ 0 512 (by omega) (by omega) (by omega);rw[f]at this;unfold rz at this;rw[wz,zv d]at this;exact this
theorem Us (h:FsAt w gf s F a) (n:SI s c A) (j:i<32) (o:(A i).k=1):
 Calls prog 12 #[(gf,()),.int .i64 ((i:Int)+1)] w
  (fun e w'=>∃m u g l,e=.returned (.tuple #[.agg #[(1:Int),.int .i64 m,.int .i64 u,.int .i64 g,.int .i64 ((A i).D.length:Int),.int .i64 l],()])/\Below w w w'):=by
 have b:=(n.A_at j).1.trans o;refine (Yo h i j _ (n.node j)).mono fun e w' ⟨f,d⟩=>⟨(s.nodes.getD i zN).m,(s.nodes.getD i zN).u,(s.nodes.getD i zN).g,(s.nodes.getD i zN).l,?_,d⟩;rw[f];unfold oJ;rw[zb (by rw[b];decide),b,n.size j]
end
