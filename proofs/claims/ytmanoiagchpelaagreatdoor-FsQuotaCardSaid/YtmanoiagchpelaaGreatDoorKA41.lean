import Derived.Test.YtmanoiagchpelaaGreatDoorKA36
import Derived.Lib.ConvBytes
set_option maxHeartbeats 0
set_option linter.all false
set_option maxRecDepth 100000
namespace Go.Proofs.YtmanoiagchpelaaGreatDoor
open Go.Proofs.Tryz Go.RowKit
variable {F:Nat->Prop} {a:Addr} {gf:Nat} {s:Fs} {w:World}
abbrev ky:=@Lib.run_convert_string_bytes
def strI (s:ByteArray):List Int:=s.data.toList.map fun b=>b.toNat
def symM (s:Fs) (i:Nat) (D:List Int) (name tells:ByteArray) (u g:Int):(Int×Int)×Fs:=
 if 64<tells.size then ((0,1),s) else addM s i D name 3 511 u g (strI tells)
theorem OH (w) (i) (name tells) (u g) (c:(tells.toList==[])=false) (d:64<tells.size):
 Calls prog 58 #[(gf,()),.int .i64 i,.string name,.string tells,.int .i64 u,.int .i64 g] w (fun e w'=>e=.returned (.tuple #[(),(1:Int)])/\w=w'):=by
 have b:decide (64<(tells.size:Int))=true:=ya (by omega);have a:64<(tells.size:Int):=by omega
 go_enter func58,ntmps58
 go_wp2;go_ret2;simp
theorem JJ (w : World) (S) : Below w w (Lib.bytesWorld w 5 S):=⟨rfl,rfl,rfl,by rw[Lib.bytesWorld_size];omega,fun k a=>Lib.bytesWorld_at_old _ _ _ _ a⟩
theorem YM (w) (tells):sx (Lib.bytesWorld w 5 tells) (.slice (some ⟨w.heap.size,0,none⟩) tells.size (grownCap w tells.size 0 5)) (strI tells):=by
 have a:(strI tells).length=tells.size:=by unfold strI;rw[yp,yv];rfl
 refine⟨⟨by simp[u8s],zu ⟨w.heap.size,0,grownCap w tells.size 0 5,by rw[a],fun r u d=>?_⟩⟩,fun p n c f=>?_⟩
 .have b:r<tells.size:=by have:=(zJ.1 d).1;rw[uo,a]at this;exact this
  rw[yO,Lib.bytesWorld_cell w _ tells r b];rw[qg _ _ (by rw[a];exact b)]at d;injection d with d;rw[<-d];have e:r<tells.data.toList.length:=by rw[yv];exact b
  simp only[strI,uO];rw[zi,zh e];rfl
 .injection f with i h g;rw[<-h,<-g];exact lH _ _ _ _
theorem Sj (h:FsAt w gf s F a) (i) (X) (D) (L:DirS s i X D) (name) (J:rW name=true) (tells) (K:(tells.toList==[])=false) (u g) (N:0<=u/\u<=255) (O:0<=g/\g<=255)
 (I:tells.size<=64->qf D name=0->∀n,pb s=some n->pN s i n (newP 3 511 u g i) (strI tells) name):
 Calls prog 58 #[(gf,()),.int .i64 (i+1),.string name,.string tells,.int .i64 u,.int .i64 g] w
  (fun e w'=>e=.returned (.tuple #[.int .i64 (symM s i D name tells u g).1.1,.int .i64 (symM s i D name tells u g).1.2])/\uB w gf (symM s i D name tells u g).2 F a w'):=by
 unfold symM;by_cases f:64<tells.size
 .rw[ze f];exact (OH w _ name tells u g K f).mono fun e w' ⟨r,d⟩=>⟨r,d▸uB.same h zB⟩
 rw[zb f];have x:=ky (P:=prog) w 9 56 5 tells tG nO uI;have b:=JJ w tells;have k:(strI tells).length=tells.size:=by unfold strI;rw[yp,yv];rfl
 have c:=YM w tells;have l:=za b;have p:=za (Y2 (h.below b) i X D L name J 3 511 u g (w.heap.size,0,tells.size,(grownCap w tells.size 0 5)) (strI tells) c (by rw[k];omega) (fun q j=>by injection j with j;have y:w.heap.size=q:=j;rw[Lib.bytesWorld_size];omega) (I (by omega)));obtain⟨M,m⟩:∃M,addM s i D name 3 511 u g (strI tells)=M:=⟨_,rfl⟩;rw[m]at p ⊢;obtain⟨⟨B,E⟩,C⟩:=M;have A:decide (64<(tells.size:Int))=false:=zz (by omega);have G:¬64<(tells.size:Int):=by omega
 have t:=za (kV u g N O w);clear m h L I c b N O;go_enter func58,ntmps58;go_wp2_with fail
 refine t.o.mono ?_;rintro e z ⟨rfl,rfl⟩;go_wp2_with fail
 refine p.o.mono ?_;rintro e H ⟨rfl,d⟩;have v:=za (d.after l.o);clear d;go_wp2;go_ret2;exact⟨rfl,v.o⟩
structure DoI where
 K:Int
 A:Int
 B:Int
 C:Int
 S:ByteArray
def atN (s:Fs) (x:Int):Nat:=((rC s).getD (pk x (rC s).length).toNat 0-1).toNat
def inoN (s:Fs) (x:DoI):Int:=(vB (dirB s (atN s x.A)) (nmOf x.B)).1
def tS (S:ByteArray):ByteArray:=⟨#[116]⟩++S
def doM (s:Fs) (x:DoI):Int×Fs:=
 let i:=atN s x.A
 let j:=atN s x.B
 let n:=(inoN s x-1).toNat
 let D:=dirB s i
 let E:=dirB s j
 match (pk x.K 12).toNat with
 | 0=>((addM s i D (nmOf x.B) 1 420 (pk x.C 3) 0 []).1.2,(addM s i D (nmOf x.B) 1 420 (pk x.C 3) 0 []).2)
 | 1=>((addM s i D (nmOf x.B) 2 493 (pk x.C 3) 0 []).1.2,(addM s i D (nmOf x.B) 2 493 (pk x.C 3) 0 []).2)
 | 2=>if inoN s x=0 then (4,s) else ((wrtM s n (pk x.C 512).toNat (strI x.S)).1.2,(wrtM s n (pk x.C 512).toNat (strI x.S)).2)
 | 3=>unlM s i D (nmOf x.B)
 | 4=>movM s i j D E (nmOf x.C) (nmOf x.B)
 | 5=>if inoN s x=0 then (4,s) else cutM s n (pk x.C 512).toNat
 | 6=>if inoN s x=0 then (4,s) else lnkM s j n E (nmOf x.C)
 | 7=>((symM s i D (nmOf x.B) (tS x.S) (pk x.C 3) 0).1.2,(symM s i D (nmOf x.B) (tS x.S) (pk x.C 3) 0).2)
 | 8=>if inoN s x=0 then (4,s) else ownM s n (pk x.C 3) 0
 | 9=>ol s (pk x.B 3) (pk x.C 20-1)
 | 10=>(0,mE s)
 | _=>if pk x.B 2=0 then ((mC s).1.2,(mC s).2) else lO s (1+pk x.C 3).toNat
structure DoOk (s:Fs) (x:DoI):Prop where
 len:x.S.size<=300
 c0:pk x.K 12=0->qf (dirB s (atN s x.A)) (nmOf x.B)=0->∀n,pb s=some n->pN s (atN s x.A) n (newP 1 420 (pk x.C 3) 0 (atN s x.A)) [] (nmOf x.B)
 c1:pk x.K 12=1->qf (dirB s (atN s x.A)) (nmOf x.B)=0->∀n,pb s=some n->pN s (atN s x.A) n (newP 2 493 (pk x.C 3) 0 (atN s x.A)) [] (nmOf x.B)
 c2:pk x.K 12=2->inoN s x≠0->(s.nodes.getD (inoN s x-1).toNat zN).k=1->(pk x.C 512).toNat+(strI x.S).length<=512->0<(strI x.S).length->kK s (inoN s x-1).toNat (pk x.C 512).toNat (strI x.S)
 c3:pk x.K 12=3->(vB (dirB s (atN s x.A)) (nmOf x.B)).2.2=0->¬((s.nodes.getD ((vB (dirB s (atN s x.A)) (nmOf x.B)).1-1).toNat zN).k=2/\0<(s.nodes.getD ((vB (dirB s (atN s x.A)) (nmOf x.B)).1-1).toNat zN).s)->lc s (atN s x.A) ((vB (dirB s (atN s x.A)) (nmOf x.B)).1-1).toNat (nmOf x.B)
 up:∀X∈s.nodes,0<=X.up/\X.up<=32
 c4:pk x.K 12=4->(vB (dirB s (atN s x.A)) (nmOf x.C)).2.2=0->movO (dirB s (atN s x.B)) (nmOf x.B)≠some ((vB (dirB s (atN s x.A)) (nmOf x.C)).1-1).toNat->movE s (atN s x.B) ((vB (dirB s (atN s x.A)) (nmOf x.C)).1-1).toNat (movO (dirB s (atN s x.B)) (nmOf x.B))=0->kM s (atN s x.A) (atN s x.B) ((vB (dirB s (atN s x.A)) (nmOf x.C)).1-1).toNat (nmOf x.C) (nmOf x.B) (movO (dirB s (atN s x.B)) (nmOf x.B))
 c5:pk x.K 12=5->inoN s x≠0->(s.nodes.getD (inoN s x-1).toNat zN).k=1->iC s (inoN s x-1).toNat (pk x.C 512).toNat
 c6:pk x.K 12=6->inoN s x≠0->(0<=(s.nodes.getD (inoN s x-1).toNat zN).l/\(s.nodes.getD (inoN s x-1).toNat zN).l<=200)/\((s.nodes.getD (inoN s x-1).toNat zN).k≠0->(s.nodes.getD (inoN s x-1).toNat zN).k≠2->(s.nodes.getD (inoN s x-1).toNat zN).l≠0->(s.nodes.getD (inoN s x-1).toNat zN).l≠200->qf (dirB s (atN s x.B)) (nmOf x.C)=0->iA s (atN s x.B) (inoN s x-1).toNat (nmOf x.C))
 c7:pk x.K 12=7->(tS x.S).size<=64->qf (dirB s (atN s x.A)) (nmOf x.B)=0->∀n,pb s=some n->pN s (atN s x.A) n (newP 3 511 (pk x.C 3) 0 (atN s x.A)) (strI (tS x.S)) (nmOf x.B)
 c8:pk x.K 12=8->inoN s x≠0->(s.nodes.getD (inoN s x-1).toNat zN).k≠0->rX s ((tx0 s).setX (inoN s x-1).toNat (chgP (s.nodes.getD (inoN s x-1).toNat zN) (pk x.C 3) 0))
 q:okQ s.rows=true
 c9:pk x.K 12=9->py s.rows (pk x.B 3) (pk x.C 20-1)=false->(setQ s.rows (pk x.B 3) (pk x.C 20-1)).length<=20/\rX s {tx0 s with rows:=setQ s.rows (pk x.B 3) (pk x.C 20-1)}
 c10:pk x.K 12=10->kZ s
 c11:pk x.K 12=11->(rm s.fo).2.2=0->rX s {tx0 s with fo:=(rm s.fo).1}
 c12:pk x.K 12=11->vO s.fo (1+pk x.C 3).toNat=true->rX s {tx0 s with fo:=delT s.fo (1+pk x.C 3).toNat}
def dos (l:List DoI):List Value:=l.flatMap fun x=>[.int .i64 x.K,.int .i64 x.A,.int .i64 x.B,.int .i64 x.C,.string x.S]
def pM (w:World) (v:Value) (l:List DoI):Prop:=wh w v 5 l.length (dos l)
theorem gu (l) (k) (hk):(dos l)[k*5]?=some (.int .i64 l[k].K)/\(dos l)[k*5+1]?=some (.int .i64 l[k].A)/\(dos l)[k*5+2]?=some (.int .i64 l[k].B)/\(dos l)[k*5+3]?=some (.int .i64 l[k].C)/\(dos l)[k*5+4]?=some (.string l[k].S):=by
 induction l generalizing k with
 | nil=>simp at hk
 | cons x l a=>
  cases k with
  | zero=>simp[dos]
  | succ k=>
   have:=a k (by simpa using hk);have e:∀j,(dos (x::l))[j+5]?=(dos l)[j]? :=fun j=>rfl;rw[show (k+1)*5=k*5+5 by omega,show k*5+5+1=k*5+1+5 by omega,show k*5+5+2=k*5+2+5 by omega,show k*5+5+3=k*5+3+5 by omega,show k*5+5+4=k*5+4+5 by omega,e,e,e,e,e];exact this
theorem Ul {v:Value} {l:List DoI} (h:pM w v l) (N) (q:N=l.length):∃p cp,v=.slice p N cp/\(0<N->∃g o,p=some ⟨g,o,none⟩/\g<w.heap.size/\∀k (hk),w.cell? ⟨g,o+k*5,none⟩=some (.int .i64 l[k].K)/\w.cell? ⟨g,o+(k*5+1),none⟩=some (.int .i64 l[k].A) /\
 w.cell? (g,o+(k*5+2))=some (.int .i64 l[k].B)/\w.cell? (g,o+(k*5+3))=some (.int .i64 l[k].C)/\w.cell? (g,o+(k*5+4))=some (.string l[k].S)):=by
 subst q;obtain⟨_,⟨c,d,e,rfl⟩|⟨g,o,b,rfl,a⟩⟩:=h
 .exact⟨d,e,by rw[c],fun h=>by omega⟩
 .refine⟨_,b,rfl,fun c=>⟨g,o,rfl,zG (a _ _ (gu l 0 c).1),fun k hk=>?_⟩⟩;obtain⟨j,f,n,i,m⟩:=gu l k hk;exact⟨a _ _ j,a _ _ f,a _ _ n,a _ _ i,a _ _ m⟩
def pa (x:DoI):Bool:=decide (300<x.S.size)
def ly (l:List DoI):Bool:=decide (l.length<=40)&&!(l.any pa)
theorem Ws {l:List DoI} (h:ly l=true):l.length<=40/\∀x∈l,x.S.size<=300:=by unfold ly at h;rw[yL,xw,vZ,tq]at h;refine⟨h.1,fun x a=>?_⟩;have:=h.2 x a;unfold pa at this;simpa using this
theorem RW (x) (w) (f:x.S.size<=maxLen):
 Calls prog 54 #[.agg #[.int .i64 x.K,.int .i64 x.A,.int .i64 x.B,.int .i64 x.C,.string x.S]] w fun e w'=>e=.returned (.bool (pa x))/\Below w w w':=by
 unfold maxLen at f;obtain⟨c,A,B,C,S⟩:=x;simp only at f;by_cases d:300<S.size
 .have b:Hid (pa ⟨c,A,B,C,S⟩=true):=by show _=_;simp[pa,d]
  have a:300<(S.size:Int):=by omega
  go_enter func54,ntmps54
  go_wp2;go_ret;rw[b.o];exact⟨by simp,zB.alloc zL _⟩
 .have b:Hid (pa ⟨c,A,B,C,S⟩=false):=by show _=_;simp[pa,d]
  have a:¬300<(S.size:Int):=by omega
  go_enter func54,ntmps54
  go_wp2;go_ret;rw[b.o];exact⟨by simp,zB.alloc zL _⟩
theorem Mh (v) (l) (w) (h:pM w v l) (hl:l.length<=1000000) (hs:∀x,x∈l->x.S.size<=maxLen):
 Calls prog 104 #[v,.func (.func 54) #[] #[]] w (fun e w'=>∃r,e=.returned (.int .i64 r)/\(0<=r↔l.any pa=true)/\Below w w w'):=by
 obtain⟨N,n⟩:=zA l.length;obtain⟨p,cp,V,F⟩:=Ul h N n.o;rw[<-n.o]at hl;subst V;have Y:=za F;have U:=za hs;clear F hs h;go_enter func104,ntmps104;go_wp2;go_loopw [8] (fun i wr=>∃k:Nat,k<=N/\i=.int .i64 k/\Hid ((l.take k).any pa=false)/\Below w w wr) (fun i _=>N-(intOf i).toNat);case atStart=>exact⟨0,ye _,rfl,rfl,zB⟩
 case round=>
  obtain⟨k,hk,rfl,G,b⟩:=hrel;by_cases q:k<N
  .obtain⟨g,o,rfl,f,I⟩:=Y.o (by omega);have a:k<l.length:=(by rw[<-n.o];exact q);obtain⟨s,D,t,z,y⟩:=I k a;obtain⟨x,m⟩:=zD (l[k]);rw[m.o]at s D t z y;have c1:=(b.cell (p:=⟨g,o+k*5,none⟩) f).trans s;have O:=(b.cell (p:=⟨g,o+(k*5+1),none⟩) f).trans D;have Q:=(b.cell (p:=⟨g,o+(k*5+2),none⟩) f).trans t;have X:=(b.cell (p:=⟨g,o+(k*5+3),none⟩) f).trans z;have R:=(b.cell (p:=⟨g,o+(k*5+4),none⟩) f).trans y;rw[<-yC]at O Q X R;have u:Hid (x.S.size<=maxLen):=(by rw[<-m.o];exact U.o _ (zx a));have Z:Hid ((l.take (k+1)).any pa=pa x):=(by rw[<-zR a,List.any_append,G.o,m.o];show _=_;simp);have M:Hid (pa x=true->l.any pa=true):=fun J=>(by rw[wb];exact⟨l[k],zx a,by rw[m.o];exact J⟩);have T:=za (fun W=>RW x W u.o);obtain⟨L,A,B,C,S⟩:=x;clear I s D t z y;have H:k<(N:Int):=(by omega);go_wp2_with fail
   refine (T.o _).mono ?_;generalize j:pa ⟨L,A,B,C,S⟩=P;have c:=za j;clear j;rintro e w1 ⟨rfl,E⟩;have d:=zf b E;cases P with
   | true=>
    go_wp2;go_ret;exact⟨k,rfl,⟨fun _=>M.o c.o,fun _=>by omega⟩,d⟩
   | false=>
    go_wp2;go_roundw;case rel=>exact⟨k+1,by omega,by go_num,Z.o.trans c.o,d⟩
    case measure=>simp[intOf];omega
  .have K:Hid (l.any pa=false):=(by have:=G.o;rw[zv (by rw[<-n.o];omega)]at this;exact this);go_wp2;go_ret;exact⟨-1,rfl,⟨fun h=>by omega,fun h=>by rw[K.o]at h;cases h⟩,b⟩
theorem Kp (v) (l) (w) (h:pM w v l) (g:l.length<=1000000) (f:∀x,x∈l->x.S.size<=maxLen):
 Calls prog 53 #[v,.func (.func 54) #[] #[]] w fun e w'=>e=.returned (.bool (l.any pa))/\Below w w w':=by
 have H:=za (Mh _ l _ h g f);clear h f;go_enter func53,ntmps53;go_wp2_with fail
 refine H.o.mono ?_;rintro e d ⟨r,rfl,a,b⟩;have c:=za a;clear a;go_wp2;go_ret;refine⟨?_,b⟩;have:l.any pa=decide (0<=r):=by rw[kA];simp[c.o]
 rw[this];rfl
theorem Wq (v) (l) (w) (h:pM w v l) (r:l.length<=maxLen) (s:∀x,x∈l->x.S.size<=maxLen):
 Calls prog 16 #[v] w fun e w'=>e=.returned (.bool (ly l))/\Below w w w':=by
 unfold maxLen at r;obtain⟨N,c⟩:=zA l.length;obtain⟨p,q,j,i⟩:=Ul h N c.o;rw[<-c.o]at r;subst j;have H:=za h;have k:=za s;clear i s h;by_cases a:N<=40
 .have d:Hid (ly l = !(l.any pa)):=by show _=_;unfold ly;rw[<-c.o];simp[a]
  have b:(N:Int)<=40:=by omega
  go_enter func16,ntmps16
  go_wp2_with fail
  refine (Kp _ l _ H.o (by rw[<-c.o];omega) k.o).mono ?_;generalize f:l.any pa=m at d ⊢;rintro e n ⟨rfl,g⟩;clear f;go_wp2;go_ret;rw[d.o];exact⟨rfl,g⟩
 .have d:Hid (ly l=false):=by show _=_;unfold ly;rw[<-c.o];simp[a]
  have b:¬(N:Int)<=40:=by omega
  go_enter func16,ntmps16
  go_wp2;go_ret;rw[d.o];exact⟨rfl,zB⟩
theorem Rg (S):(strI S).length=S.size:=by unfold strI;rw[yp,yv];rfl
theorem do_any (h:FsAt w gf s F a) (hd:eI s) (x) (hl:0<(rC s).length/\(rC s).length<=64) (ab:DlOk s (rC s)) (ae:DoOk s x):
 Calls prog 18 #[(gf,()),.agg #[.int .i64 x.K,.int .i64 x.A,.int .i64 x.B,.int .i64 x.C,.string x.S]] w (fun e w'=>e=.returned (.int .i64 (doM s x).1)/\uB w gf (doM s x).2 F a w'):=by
 have H:=za h;have HD:=za hd;obtain⟨Y,A,B,C,S⟩:=x;have v:=za ae;clear ae;obtain⟨R,HR⟩:=zD (doM s ⟨Y,A,B,C,S⟩);rw[HR.o];obtain⟨re,rs⟩:=R;have bp:Hid (Below w w (w.alloc (.cells #[Y,A,B,C,.string S] 30))):=zB.alloc zL _;have br:Hid ((w.alloc (.cells #[Y,A,B,C,.string S] 30)).heap[w.heap.size]?=some (.cells #[Y,A,B,C,.string S] 30)):=zH;have aQ:=za (Wa (h.below bp.o) hd);obtain⟨L,HL⟩:=zD ((rC s).length);have bM:0<L:=by rw[<-HL.o];exact hl.1
 have ch:L<=64:=by rw[<-HL.o];exact hl.2
 obtain⟨ax,aG⟩:=zD (rC s);have bn:=za ab;rw[aG.o]at aQ HL bn;rw[HL.o]at aQ;have b0:((L:Int)==0)=false:=by simp;omega
 have bi:=ru A L (by omega) (by omega);have bd:=ru B L (by omega) (by omega);obtain⟨ia,aO⟩:∃n:Nat,pk A L=(n:Int):=⟨(pk A L).toNat,by omega⟩;obtain⟨ib,aT⟩:∃n:Nat,pk B L=(n:Int):=⟨(pk B L).toNat,by omega⟩;have b8:=za (fun W=>pB A L W (by omega) (by omega));have bt:=za (fun W=>pB B L W (by omega) (by omega));rw[aO]at b8 bi;rw[aT]at bt bd;have bq:ia<L:=by omega
 have bc:ib<L:=by omega
 clear h hd hl ab;go_enter func18,ntmps18;go_wp2_with fail
 refine aQ.o.mono ?_;rintro e w2 ⟨v2,rfl,aR,aB⟩;obtain⟨g2,c2,bT,cB,_⟩:=aR.form bM;subst bT;have bQ:=za (zf bp.o aB);have aa:=za (wy aB br.o);have aW:∀r,r<L->∃n:Nat,n<32/\ax.getD r 0=n+1/\(s.nodes.getD n zN).k=2/\w2.cell? ⟨g2,r,none⟩=some (.int .i64 (n+1)):=fun r Z=>by
  have aL:r<ax.length:=by rw[HL.o];exact Z
  obtain⟨n1,n2,n3⟩:=bn.o _ (zx aL);have bL:ax.getD r 0=ax[r]:=by rw[zi,zh aL];rfl
  refine⟨(ax[r]-1).toNat,by omega,by rw[bL];omega,n3,?_⟩;have:=aR.cells (g:=g2) rfl r (.int .i64 ax[r]) (by unfold ints;rw[xF,zh aL];rfl);have aH:(⟨g2,0,none⟩:Addr).add r=⟨g2,r,none⟩:=by unfold Addr.add;split<;>simp_all
  rw[aH]at this;rw[this]
  congr 2
  omega
 obtain⟨i,b2,b3,b6,bk⟩:=aW ia bq;obtain⟨j,bb,bf,bj,bm⟩:=aW ib bc;have be:=HD.o.1 i b2 b6;have bz:=HD.o.1 j bb bj;have ap:=za be;have b1:=za bz;have I:Hid (atN s A=i/\atN s B=j):=by unfold atN;rw[aG.o,HL.o,aO,aT,yz,yz,b3,bf];constructor<;>omega
 have bZ:=za aB;have r0:w2.cell? (w.heap.size,0)=some (.int .i64 Y):=by rw[zC aa.o];rfl
 have r1:w2.cell? (w.heap.size,1)=some (.int .i64 A):=by rw[zC aa.o];rfl
 have r2:w2.cell? (w.heap.size,2)=some (.int .i64 B):=by rw[zC aa.o];rfl
 have k1:=xA r1;have k2:=xA r2;have k3:=xA bk;have k4:=xA bm;have bS:ia<(L:Int):=by omega
 have bW:ib<(L:Int):=by omega
 clear aR aB aW be bz b6 bj b3 bf aO aT bi bd;go_wp2_with fail
 refine wQ (by kernel_rfl) (by kernel_rfl) ?_
 repeat (first
  | go_big_quiet_skip
  | (refine qE 20 #[.tmp 18,.tmp 20] #[3,3] rfl rfl (fun _ _=>by kernel_rfl) #[A,L] (by kernel_rfl) (.int .i64 (ia:Int)) (fun _ _=>qu) (fun w' _=>(b8.o w').mono fun e w2 ⟨he,am⟩=>⟨he,am▸zB⟩) ?_;simp only[Act.put,zK,yi,yf])
  | (refine qE 20 #[.tmp 26,.tmp 28] #[3,3] rfl rfl (fun _ _=>by kernel_rfl) #[B,L] (by kernel_rfl) (.int .i64 (ib:Int)) (fun _ _=>qu) (fun w' _=>(bt.o w').mono fun e w2 ⟨he,am⟩=>⟨he,am▸zB⟩) ?_;simp only[Act.put,zK,yi,yf])
  | (go_big_quiet_want;go_big_quiet_op;go_big_quiet_on))
 refine ve ?_;intro w3 aS;have bs:=za (zf bQ.o (sF aS));have ao:=za (wy (sF aS) aa.o);clear r0 r1 r2 k1 k2 k3 k4 aS bk bm;have J:Hid (∀W,Below w3 w3 W->W.cell? (w.heap.size,0)=some (.int .i64 Y)/\W.cell? (w.heap.size,1)=some (.int .i64 A)/\W.cell? (w.heap.size,2)=some (.int .i64 B)/\W.cell? (w.heap.size,3)=some (.int .i64 C)/\W.cell? (w.heap.size,4)=some (.string S)):=fun W hW=>by have p:=wy hW ao.o;refine⟨?_,?_,?_,?_,?_⟩<;>(rw[zC p];rfl)
 have u:Hid (∀(y) (W),Calls prog 37 #[.int .i64 y] W (fun e w'=>e=.returned (.string (nmOf y))/\Below W W w')):=fun y W=>TU y W;have a4:Hid (∀W,Below w w W->Calls prog 36 #[(gf,()),.int .i64 (i+1),.string (nmOf B)] W (fun e w'=>e=.returned (.tuple #[.int .i64 (vB (dirB s i) (nmOf B)).1,.int .i64 (vB (dirB s i) (nmOf B)).2.2])/\Below W W w')):=fun W hW=>XY (H.o.below hW) i _ _ ap.o (nmOf B) (lU B);have bo:Hid ((vB (dirB s i) (nmOf B)).2.2=0\/(vB (dirB s i) (nmOf B)).2.2=4/\(vB (dirB s i) (nmOf B)).1=0):=Zh (D:=dirB s i) (n:=(dirB s i).length / 16) (name:=nmOf B) 7 0 0;have aF:Hid ((vB (dirB s i) (nmOf B)).2.2=0->1<=(vB (dirB s i) (nmOf B)).1/\(vB (dirB s i) (nmOf B)).1<=32):=Ue ap.o.ok;have f:Hid (inoN s ⟨Y,A,B,C,S⟩=(vB (dirB s i) (nmOf B)).1):=by show _=_;unfold inoN;rw[I.o.1]
 obtain⟨⟨ri,rl,rr⟩,Hr⟩:∃r,Hid (vB (dirB s i) (nmOf B)=r):=⟨_,za rfl⟩;rw[Hr.o]at a4 bo aF f;obtain⟨c0,c1,c2,c3,c4⟩:=J.o w3 zB;go_wp2_with fail
 refine (u.o B w3).mono ?_;rintro e w4 ⟨rfl,bA⟩;have bx:=za bA;clear bA;go_wp2_with fail
 refine (a4.o w4 (zf bs.o bx.o)).mono ?_;rintro e V ⟨rfl,b5⟩;have ag:=za (zf bx.o b5);have t:=za (zf bs.o ag.o);clear b5 c0 c1 c2 c3 c4;have bh:ri=0\/∃n:Nat,n<32/\ri=n+1:=by
  rcases bo.o with p|p
  .have h2:=aF.o p;have h3:=h2.1;have h4:=h2.2;exact zu ⟨(ri-1).toNat,by omega,by omega⟩
  .exact zr p.2
 have aD:=za bh;clear bh;have b7:=ru Y 12 (by omega) (by omega);obtain⟨kx,aN⟩:∃n:Nat,pk Y 12=(n:Int):=⟨(pk Y 12).toNat,by omega⟩;have bl:=za (pB Y 12 V (by omega) (by omega));rw[aN]at bl b7;have b4:kx<12:=by omega
 have d:=za aN;clear aN b7;obtain⟨c0,c1,c2,c3,c4⟩:=J.o V ag.o;go_wp2_with fail
 refine bl.o.mono ?_;rintro e w6 ⟨rfl,rfl⟩;have bN:kx=0\/kx=1\/kx=2\/kx=3\/kx=4\/kx=5\/kx=6\/kx=7\/kx=8\/kx=9\/kx=10\/kx=11:=by omega
 clear b4;rcases bN with rfl|rfl|rfl|rfl|rfl|rfl|rfl|rfl|rfl|rfl|rfl|rfl
 .obtain⟨M,Q⟩:=zD (addM s i (dirB s i) (nmOf B) 1 420 (pk C 3) 0 []);obtain⟨⟨ra,rb⟩,X⟩:=M;have hm:(rb,X)=(re,rs):=by rw[<-HR.o];unfold doM;rw[d.o];show _=((addM s (atN s A) (dirB s (atN s A)) (nmOf B) 1 420 (pk C 3) 0 []).1.2,(addM s (atN s A) (dirB s (atN s A)) (nmOf B) 1 420 (pk C 3) 0 []).2);rw[I.o.1,Q.o]
  injection hm with m1 m2;subst m1 m2;have G:=ru C 3 (by omega) (by omega);have z:=za (fun W=>pB C 3 W (by omega) (by omega));have c:Hid (∀W,Below w w W->Calls prog 49 #[(gf,()),.int .i64 (i+1),.string (nmOf B),(1:Int),(420:Int),.int .i64 (pk C 3),()] W (fun e w'=>e=.returned (.tuple #[ra,rb])/\uB w gf X F a w')):=fun W hW=>by have b:=fG (H.o.below hW) i _ _ ap.o (nmOf B) (lU B) 1 420 (pk C 3) 0 (zr rfl) (by omega) (by omega) (by omega) (by have p:=v.o.c0 d.o;rw[show atN s (DoI.mk Y A B C S).A=i from I.o.1]at p;exact p);rw[Q.o]at b;exact b.mono fun e w' ⟨p,h2⟩=>⟨p,h2.after hW⟩
  clear G;go_wp2_with fail
  go_region_with (first
   | (go_at_call 37;refine (u.o B _).mono ?_;rintro e wn ⟨rfl,aj⟩;have O:=zf (lG (x9 V V) 1) aj;have av:=za (zf t.o O);obtain⟨d0,d1,d2,d3,d4⟩:=J.o wn (zf ag.o O);clear aj O)
   | (go_at_call 20;refine (z.o _).mono ?_;rintro e wp ⟨rfl,ad⟩;subst ad)
   | (go_at_call 49;refine (c.o _ av.o).mono ?_;rintro e w8 ⟨rfl,m⟩;have E:=za m;clear m))
  all_goals
   go_wp2;go_ret;exact⟨rfl,E.o⟩
 .obtain⟨M,Q⟩:=zD (addM s i (dirB s i) (nmOf B) 2 493 (pk C 3) 0 []);obtain⟨⟨ra,rb⟩,X⟩:=M;have hm:(rb,X)=(re,rs):=by rw[<-HR.o];unfold doM;rw[d.o];show _=((addM s (atN s A) (dirB s (atN s A)) (nmOf B) 2 493 (pk C 3) 0 []).1.2,(addM s (atN s A) (dirB s (atN s A)) (nmOf B) 2 493 (pk C 3) 0 []).2);rw[I.o.1,Q.o]
  injection hm with m1 m2;subst m1 m2;have G:=ru C 3 (by omega) (by omega);have z:=za (fun W=>pB C 3 W (by omega) (by omega));have c:Hid (∀W,Below w w W->Calls prog 49 #[(gf,()),.int .i64 (i+1),.string (nmOf B),(2:Int),(493:Int),.int .i64 (pk C 3),()] W (fun e w'=>e=.returned (.tuple #[ra,rb])/\uB w gf X F a w')):=fun W hW=>by have b:=fG (H.o.below hW) i _ _ ap.o (nmOf B) (lU B) 2 493 (pk C 3) 0 (zu rfl) (by omega) (by omega) (by omega) (by have p:=v.o.c1 d.o;rw[show atN s (DoI.mk Y A B C S).A=i from I.o.1]at p;exact p);rw[Q.o]at b;exact b.mono fun e w' ⟨p,h2⟩=>⟨p,h2.after hW⟩
  clear G;go_wp2_with fail
  go_region_with (first
   | (go_at_call 37;refine (u.o B _).mono ?_;rintro e wn ⟨rfl,aj⟩;have O:=zf (lG (x9 V V) 1) aj;have av:=za (zf t.o O);obtain⟨d0,d1,d2,d3,d4⟩:=J.o wn (zf ag.o O);clear aj O)
   | (go_at_call 20;refine (z.o _).mono ?_;rintro e wp ⟨rfl,ad⟩;subst ad)
   | (go_at_call 49;refine (c.o _ av.o).mono ?_;rintro e w8 ⟨rfl,m⟩;have E:=za m;clear m))
  all_goals
   go_wp2;go_ret;exact⟨rfl,E.o⟩
 .have G:=ru C 512 (by omega) (by omega);have z:=za (fun W=>pB C 512 W (by omega) (by omega));obtain⟨sz,an⟩:∃n:Nat,pk C 512=(n:Int):=⟨(pk C 512).toNat,by omega⟩;rw[an]at z G;have bP:S.size<=300:=v.o.len;have cs:=Rg S;have ct:=ky (P:=prog) V.drew 9 56 5 S tG nO uI;have a5:=zf (lG (x9 V V) 1) (JJ V.drew S);have aP:=YM V.drew S;have aV:=za (zf t.o a5);obtain⟨_,_,_,m3,m4⟩:=J.o (Lib.bytesWorld V.drew 5 S) (zf ag.o a5);have U:Hid (¬F w.heap.size/\w.heap.size<(Lib.bytesWorld V.drew 5 S).heap.size):=⟨fun hc=>Nat.lt_irrefl _ (H.o.fin _ hc),zo (zo (xR ao.o) ag.o.size) a5.size⟩;rcases aD.o with Z|⟨n,T,Z⟩
  .subst Z;have hm:(4,s)=(re,rs):=by
    rw[<-HR.o];unfold doM;rw[d.o];show _=if inoN s _=0 then _ else _
    rw[f.o,ze rfl]
   injection hm with m1 m2;subst m1 m2;have c:=za (OJ (gf:=gf) (Lib.bytesWorld V.drew 5 S) sz (V.drew.heap.size,0,S.size,(grownCap V.drew S.size 0 5)));clear aP a5 G;go_wp2_with fail
   refine vF ?_
   go_region_held_law (fun w'=>w'.cell? (w.heap.size,3)=some (.int .i64 C)/\w'.cell? (w.heap.size,4)=some (.string S))
    (first
     | exact⟨c3,c4⟩
     | exact⟨m3,m4⟩
     | exact⟨n3,n4⟩
     | (go_keep;done))
    (first
    | (go_at_call 20;refine (z.o _).mono ?_;rintro e wp ⟨rfl,ad⟩;subst ad)
    | (go_at_call 43;refine c.o.mono ?_;rintro e w8 ⟨rfl,rfl⟩;have E:=za (uB.same H.o aV.o)))
   all_goals
    refine ul ?_;go_wp2;go_ret;exact⟨rfl,E.o⟩
  subst Z;have l:¬(n:Int)+1=0:=by omega
  have en:((n:Int)+1-1).toNat=n:=by omega
  obtain⟨M,Q⟩:=zD (wrtM s n sz (strI S));obtain⟨⟨ra,rb⟩,X⟩:=M;have hm:(rb,X)=(re,rs):=by
   rw[<-HR.o];unfold doM;rw[d.o];show _=if inoN s _=0 then _ else _
   rw[f.o,zb l,en];show _=((wrtM s n (pk C 512).toNat (strI S)).1.2,(wrtM s n (pk C 512).toNat (strI S)).2);rw[an,yz,Q.o]
  injection hm with m1 m2;subst m1 m2;have b:=WX (H.o.below aV.o) n T sz (by omega) (V.drew.heap.size,0,S.size,(grownCap V.drew S.size 0 5)) (strI S) aP (by omega) (by have p:=v.o.c2 d.o (by rw[f.o];exact l);rw[f.o,en]at p;rw[show (pk (DoI.mk Y A B C S).C 512).toNat=sz by show (pk C 512).toNat=sz;rw[an];exact yz _]at p;exact p);rw[Q.o]at b;have c:=za b;clear b aP a5 G;go_wp2_with fail
  refine vF ?_
  go_region_held_law (fun w'=>w'.cell? (w.heap.size,3)=some (.int .i64 C)/\w'.cell? (w.heap.size,4)=some (.string S))
   (first
    | exact⟨c3,c4⟩
    | exact⟨m3,m4⟩
    | exact⟨n3,n4⟩
    | (go_keep;done))
   (first
   | (go_at_call 20;refine (z.o _).mono ?_;rintro e wp ⟨rfl,ad⟩;subst ad)
   | (
    go_at_call 43;refine c.o.mono ?_;rintro e w8 ⟨rfl,m⟩
    have k8:=m.choose_spec.2.2;have n3:=(k8.cell (i:=3) U.o.2 U.o.1).trans m3;have n4:=(k8.cell (i:=4) U.o.2 U.o.1).trans m4;have E:=za (m.after aV.o);clear m k8))
  all_goals
   refine ul ?_;go_wp2;go_ret;exact⟨rfl,E.o⟩
 .have Q:Hid (unlM s i (dirB s i) (nmOf B)=(re,rs)):=by show _=_;rw[<-HR.o];unfold doM;rw[d.o];show _=unlM s (atN s A) (dirB s (atN s A)) (nmOf B);rw[I.o.1]
  go_wp2_with fail
  refine (u.o B _).mono ?_;rintro e w7 ⟨rfl,ai⟩;have N:=za (zf t.o ai);have b:=Mp (H.o.below N.o) i _ _ ap.o (nmOf B) (lU B) (by have p:=v.o.c3 d.o;rw[show atN s (DoI.mk Y A B C S).A=i from I.o.1]at p;exact p);rw[Q.o]at b;have c:=za b;clear ai b c0 c1 c2 c3 c4;go_wp2_with fail
  refine c.o.mono ?_;rintro e w8 ⟨rfl,m⟩;have E:=za (m.after N.o);clear m;go_wp2;go_ret;exact⟨rfl,E.o⟩
 .have Q:Hid (movM s i j (dirB s i) (dirB s j) (nmOf C) (nmOf B)=(re,rs)):=by show _=_;rw[<-HR.o];unfold doM;rw[d.o];show _=movM s (atN s A) (atN s B) (dirB s (atN s A)) (dirB s (atN s B)) (nmOf C) (nmOf B);rw[I.o.1,I.o.2]
  have kB:=xA c2;have kC:=xA c3;have kS:=xA c4;go_wp2_with fail
  refine Zz 9 (by kernel_rfl) (by kernel_rfl) ?_;simp only[wZ,xH,vd,wT]
  repeat (first
   | go_big_quiet_skip
   | (refine qE 37 #[.tmp 114] #[3] rfl rfl (fun _ _=>by kernel_rfl) #[C] (by kernel_rfl) (.string (nmOf C)) (fun _ _=>qu) (fun w' _=>u.o C w') ?_;simp only[Act.put,zK,yi,yf])
   | (refine qE 37 #[.tmp 118] #[3] rfl rfl (fun _ _=>by kernel_rfl) #[B] (by kernel_rfl) (.string (nmOf B)) (fun _ _=>qu) (fun w' _=>u.o B w') ?_;simp only[Act.put,zK,yi,yf])
   | (go_big_quiet_want;go_big_quiet_op;go_big_quiet_on))
  refine ve ?_;intro w7 a9;have N:=za (zf t.o (sF a9));clear a9 c0 c1 c2 c3 c4 kB kC kS;have b:=Qj (H.o.below N.o) i _ _ ap.o j _ _ b1.o (nmOf C) (nmOf B) (lU C) (lU B) v.o.up (by have p:=v.o.c4 d.o;rw[show atN s (DoI.mk Y A B C S).A=i from I.o.1,show atN s (DoI.mk Y A B C S).B=j from I.o.2]at p;exact p);rw[Q.o]at b;have c:=za b;clear b;go_wp2_with fail
  refine c.o.mono ?_;rintro e w8 ⟨rfl,m⟩;have E:=za (m.after N.o);clear m;go_wp2;go_ret;exact⟨rfl,E.o⟩
 .have G:=ru C 512 (by omega) (by omega);have z:=za (fun W=>pB C 512 W (by omega) (by omega));obtain⟨sz,an⟩:∃n:Nat,pk C 512=(n:Int):=⟨(pk C 512).toNat,by omega⟩;rw[an]at z G;rcases aD.o with Z|⟨n,T,Z⟩
  .subst Z;have hm:(4,s)=(re,rs):=by
    rw[<-HR.o];unfold doM;rw[d.o];show _=if inoN s _=0 then _ else _
    rw[f.o,ze rfl]
   injection hm with m1 m2;subst m1 m2;go_wp2_with fail
   refine (z.o _).mono ?_;rintro e w7 ⟨rfl,rfl⟩;have c:=za (Sm (gf:=gf) V sz);go_wp2_with fail
   refine c.o.mono ?_;rintro e w8 ⟨rfl,m⟩;have E:=za (m▸uB.same H.o t.o);clear m;go_wp2;go_ret;exact⟨rfl,E.o⟩
  subst Z;have l:¬(n:Int)+1=0:=by omega
  have en:((n:Int)+1-1).toNat=n:=by omega
  have Q:Hid (cutM s n sz=(re,rs)):=by
   show _=_;rw[<-HR.o];unfold doM;rw[d.o];show _=if inoN s _=0 then _ else _
   rw[f.o,zb l,en];show cutM s n sz=cutM s n (pk C 512).toNat;rw[an,yz]
  go_wp2_with fail
  refine (z.o _).mono ?_;rintro e w7 ⟨rfl,rfl⟩;have b:=Sl (H.o.below t.o) n T sz (by omega) (by have p:=v.o.c5 d.o (by rw[f.o];exact l);rw[f.o,en]at p;rw[show (pk (DoI.mk Y A B C S).C 512).toNat=sz by show (pk C 512).toNat=sz;rw[an];exact yz _]at p;exact p);rw[Q.o]at b;have c:=za b;clear b;go_wp2_with fail
  refine c.o.mono ?_;rintro e w8 ⟨rfl,m⟩;have E:=za (m.after t.o);clear m;go_wp2;go_ret;exact⟨rfl,E.o⟩
 .have bu:=lU C;rcases aD.o with Z|⟨n,T,Z⟩
  .subst Z;have hm:(4,s)=(re,rs):=by
    rw[<-HR.o];unfold doM;rw[d.o];show _=if inoN s _=0 then _ else _
    rw[f.o,ze rfl]
   injection hm with m1 m2;subst m1 m2;go_wp2_with fail
   refine (u.o C _).mono ?_;rintro e w7 ⟨rfl,ai⟩;have N:=za (zf t.o ai);clear ai c0 c1 c2 c3 c4;have c:=za (Ql (gf:=gf) w7 ((j:Int)+1) (nmOf C) bu);go_wp2_with fail
   refine c.o.mono ?_;rintro e w8 ⟨rfl,m⟩;have E:=za (m▸uB.same H.o N.o);clear m;go_wp2;go_ret;exact⟨rfl,E.o⟩
  subst Z;have l:¬(n:Int)+1=0:=by omega
  have en:((n:Int)+1-1).toNat=n:=by omega
  have Q:Hid (lnkM s j n (dirB s j) (nmOf C)=(re,rs)):=by
   show _=_;rw[<-HR.o];unfold doM;rw[d.o];show _=if inoN s _=0 then _ else _
   rw[f.o,zb l,en];show lnkM s j n (dirB s j) (nmOf C)=lnkM s (atN s B) n (dirB s (atN s B)) (nmOf C);rw[I.o.2]
  go_wp2_with fail
  refine (u.o C _).mono ?_;rintro e w7 ⟨rfl,ai⟩;have N:=za (zf t.o ai);clear ai c0 c1 c2 c3 c4;have b:=Qk (H.o.below N.o) j _ _ b1.o (nmOf C) bu n T (by have p:=(v.o.c6 d.o (by rw[f.o];exact l)).1;rw[f.o,en]at p;exact p) (by have p:=(v.o.c6 d.o (by rw[f.o];exact l)).2;rw[f.o,en,show atN s (DoI.mk Y A B C S).B=j from I.o.2]at p;exact p);rw[Q.o]at b;have c:=za b;clear b;go_wp2_with fail
  refine c.o.mono ?_;rintro e w8 ⟨rfl,m⟩;have E:=za (m.after N.o);clear m;go_wp2;go_ret;exact⟨rfl,E.o⟩
 .have G:=ru C 3 (by omega) (by omega);have z:=za (fun W=>pB C 3 W (by omega) (by omega));have bP:S.size<=300:=v.o.len;have bv:((tS S).toList==[])=false:=by rw[xr];intro hc;have p:tS S=ByteArray.empty:=kY (hc.trans (by kernel_rfl));have h2:=zV ByteArray.size p;unfold tS at h2;rw[ByteArray.size_append]at h2;have h3:(⟨#[116]⟩:ByteArray).size=1:=rfl;have h4:ByteArray.empty.size=0:=rfl;omega
  obtain⟨M,Q⟩:=zD (symM s i (dirB s i) (nmOf B) (tS S) (pk C 3) 0);obtain⟨⟨ra,rb⟩,X⟩:=M;have hm:(rb,X)=(re,rs):=by rw[<-HR.o];unfold doM;rw[d.o];show _=((symM s (atN s A) (dirB s (atN s A)) (nmOf B) (tS S) (pk C 3) 0).1.2,(symM s (atN s A) (dirB s (atN s A)) (nmOf B) (tS S) (pk C 3) 0).2);rw[I.o.1,Q.o]
  injection hm with m1 m2;subst m1 m2;have c:Hid (∀W,Below w w W->Calls prog 58 #[(gf,()),.int .i64 (i+1),.string (nmOf B),.string (tS S),.int .i64 (pk C 3),()] W (fun e w'=>e=.returned (.tuple #[ra,rb])/\uB W gf X F a w')):=fun W hW=>by have b:=Sj (H.o.below hW) i _ _ ap.o (nmOf B) (lU B) (tS S) bv (pk C 3) 0 (by omega) (by omega) (by have p:=v.o.c7 d.o;rw[show atN s (DoI.mk Y A B C S).A=i from I.o.1]at p;exact p);rw[Q.o]at b;exact b
  have U:Hid (¬F w.heap.size/\w.heap.size<V.heap.size):=⟨fun hc=>Nat.lt_irrefl _ (H.o.fin _ hc),zo (xR ao.o) ag.o.size⟩;have aH:∀W,(Op.stringOp .add ⟨#[116]⟩ S).run prog W=.ok (.string (tS S)) W:=fun W=>run_string_add_sum W _ _ (by show 1+S.size<=_;omega);have cy:¬1+S.size > 9223372036854775807:=by omega
  have cp:¬9223372036854775807<1+S.size:=by omega
  have cm:¬9223372036854775807<1+(S.size:Int):=by omega
  have cx:S.size+1<=9223372036854775807:=by omega
  clear G bv;go_wp2_with fail
  refine vF ?_
  go_region_held_law (fun w'=>w'.cell? (w.heap.size,2)=some (.int .i64 B)/\w'.cell? (w.heap.size,3)=some (.int .i64 C)/\w'.cell? (w.heap.size,4)=some (.string S))
   (first
    | exact⟨c2,c3,c4⟩
    | exact⟨d2,d3,d4⟩
    | exact⟨n2,n3,n4⟩
    | (go_keep;done))
   (first
    | (go_at_call 37;refine (u.o B _).mono ?_;rintro e wn ⟨rfl,aj⟩;have O:=zf (lG (x9 V V) 1) aj;have av:=za (zf t.o O);obtain⟨d0,d1,d2,d3,d4⟩:=J.o wn (zf ag.o O);have aM:=za O.size;clear aj O)
    | (go_at_call 20;refine (z.o _).mono ?_;rintro e wp ⟨rfl,ad⟩;subst ad)
    | (
     go_at_call 58;refine (c.o wn av.o).mono ?_;rintro e w8 ⟨rfl,m⟩
     have k8:=m.choose_spec.2.2;have n2:=(k8.cell (i:=2) (zo U.o.2 aM.o) U.o.1).trans d2;have n3:=(k8.cell (i:=3) (zo U.o.2 aM.o) U.o.1).trans d3;have n4:=(k8.cell (i:=4) (zo U.o.2 aM.o) U.o.1).trans d4;have E:=za (m.after av.o);clear m k8))
  all_goals
   refine ul ?_;go_wp2;go_ret;exact⟨rfl,E.o⟩
 .have G:=ru C 3 (by omega) (by omega);have z:=za (fun W=>pB C 3 W (by omega) (by omega));rcases aD.o with Z|⟨n,T,Z⟩
  .subst Z;have hm:(4,s)=(re,rs):=by
    rw[<-HR.o];unfold doM;rw[d.o];show _=if inoN s _=0 then _ else _
    rw[f.o,ze rfl]
   injection hm with m1 m2;subst m1 m2;go_wp2_with fail
   refine (z.o _).mono ?_;rintro e w7 ⟨rfl,rfl⟩;have c:=za (L4 (gf:=gf) V (pk C 3) 0 (by omega) (by omega));go_wp2_with fail
   refine c.o.mono ?_;rintro e w8 ⟨rfl,m⟩;have E:=za (uB.same H.o (zf t.o m));clear m;go_wp2;go_ret;exact⟨rfl,E.o⟩
  subst Z;have l:¬(n:Int)+1=0:=by omega
  have en:((n:Int)+1-1).toNat=n:=by omega
  have Q:Hid (ownM s n (pk C 3) 0=(re,rs)):=by
   show _=_;rw[<-HR.o];unfold doM;rw[d.o];show _=if inoN s _=0 then _ else _
   rw[f.o,zb l,en]
  go_wp2_with fail
  refine (z.o _).mono ?_;rintro e w7 ⟨rfl,rfl⟩;have b:=L3 (H.o.below t.o) n T (pk C 3) 0 (by omega) (by omega) (by have p:=v.o.c8 d.o (by rw[f.o];exact l);rw[f.o,en]at p;exact p);rw[Q.o]at b;have c:=za b;clear b;go_wp2_with fail
  refine c.o.mono ?_;rintro e w8 ⟨rfl,m⟩;have E:=za (m.after t.o);clear m;go_wp2;go_ret;exact⟨rfl,E.o⟩
 .have Q:Hid (ol s (pk B 3) (pk C 20-1)=(re,rs)):=by show _=_;rw[<-HR.o];unfold doM;rw[d.o];rfl
  have aK:=ru B 3 (by omega) (by omega);have G:=ru C 20 (by omega) (by omega);have iw:=zW (pk C 20-1) (by omega);have kB:=xA c2;have kC:=xA c3;have kS:=xA c4;go_wp2_with fail
  refine Zz 8 (by kernel_rfl) (by kernel_rfl) ?_;simp only[wZ,xH,vd,wT]
  repeat (first
   | go_big_quiet_skip
   | (refine qE 20 #[.tmp 167,.const (.int .i64 3)] #[3,3] rfl rfl (fun _ _=>by kernel_rfl) #[B,(3:Int)] (by kernel_rfl) (.int .i64 (pk B 3)) (fun _ _=>qu) (fun w' _=>(pB B 3 w' (by omega) (by omega)).mono fun e w2 ⟨he,am⟩=>⟨he,am▸zB⟩) ?_;simp only[Act.put,zK,yi,yf])
   | (refine qE 20 #[.tmp 170,.const (.int .i64 20)] #[3,3] rfl rfl (fun _ _=>by kernel_rfl) #[C,(20:Int)] (by kernel_rfl) (.int .i64 (pk C 20)) (fun _ _=>qu) (fun w' _=>(pB C 20 w' (by omega) (by omega)).mono fun e w2 ⟨he,am⟩=>⟨he,am▸zB⟩) ?_;simp only[Act.put,zK,yi,yf])
   | (go_big_quiet_want;go_big_quiet_op;go_big_quiet_on))
  refine ve ?_;intro w7 a9;have N:=za (zf t.o (sF a9));clear a9 c0 c1 c2 c3 c4 kB kC kS;have b:=L2 (H.o.below N.o) (pk B 3) (pk C 20-1) v.o.q (by omega) (by omega) (v.o.c9 d.o);rw[Q.o]at b;have c:=za b;clear b;go_wp2_with fail
  refine c.o.mono ?_;rintro e w8 ⟨rfl,m⟩;have E:=za (m.after N.o);clear m;go_wp2;go_ret;exact⟨rfl,E.o⟩
 .have hm:(0,mE s)=(re,rs):=by rw[<-HR.o];unfold doM;rw[d.o];rfl
  injection hm with m1 m2;subst m1 m2;obtain⟨o1,o2,o3,o4⟩:=v.o.c10 d.o;have c:=za (i9 (H.o.below t.o) o1 o2 o3 o4);clear o1 o2 o3 o4;go_wp2_with fail
  refine c.o.mono ?_;rintro e w8 ⟨rfl,m,k8⟩;have E:Hid (uB w gf (mE s) F a w8):=⟨_,m,fun r Z=>Z.imp id fun h9=>zt t.o.size h9.1,(yQ.of_below t.o).trans k8 fun r Z=>zr Z⟩;clear m k8;go_wp2;go_ret;exact⟨rfl,E.o⟩
 .have aK:=ru B 2 (by omega) (by omega);have G:=ru C 3 (by omega) (by omega);have a3:=za (fun W=>pB B 2 W (by omega) (by omega));have z:=za (fun W=>pB C 3 W (by omega) (by omega));have ay:(if pk B 2=0 then ((mC s).1.2,(mC s).2) else lO s (1+pk C 3).toNat)=(re,rs):=by rw[<-HR.o];unfold doM;rw[d.o];rfl
  by_cases aq:pk B 2=0
  .rw[ze aq]at ay;injection ay with m1 m2;subst m1 m2;rw[aq]at a3;clear aq aK G;go_wp2_with fail
   refine (a3.o _).mono ?_;rintro e w7 ⟨rfl,rfl⟩;have b:=Qi (H.o.below t.o) (v.o.c11 d.o);have c:=za b;clear b c0 c1 c2 c3 c4;go_wp2_with fail
   refine c.o.mono ?_;rintro e w8 ⟨rfl,m⟩;have E:=za (m.after t.o);clear m;go_wp2;go_ret;exact⟨rfl,E.o⟩
  .rw[zb aq]at ay;have b9:(pk B 2==0)=false:=(by simpa using aq);obtain⟨fk,bw⟩:∃n:Nat,1+pk C 3=(n:Int):=⟨(1+pk C 3).toNat,by omega⟩;have iw:IntKind.i64.wrap (1+pk C 3)=fk:=(by rw[zQ _ (by omega)];exact bw);have a6:(1+pk C 3).toNat=fk:=(by omega);rw[a6]at ay;have b:=Mq (H.o.below t.o) fk (by omega) (by omega) (by have p:=v.o.c12 d.o;rw[show (1+pk (DoI.mk Y A B C S).C 3).toNat=fk from a6]at p;exact p);rw[ay]at b;have c:=za b;clear b aq aK G bw a6 ay;go_wp2_with fail
   refine (a3.o _).mono ?_;rintro e w7 ⟨rfl,rfl⟩;go_wp2_with fail
   refine (z.o _).mono ?_;rintro e w7 ⟨rfl,rfl⟩;go_wp2_with fail
   refine c.o.mono ?_;rintro e w8 ⟨rfl,m⟩;have E:=za (m.after t.o);clear m;go_wp2;go_ret;exact⟨rfl,E.o⟩
