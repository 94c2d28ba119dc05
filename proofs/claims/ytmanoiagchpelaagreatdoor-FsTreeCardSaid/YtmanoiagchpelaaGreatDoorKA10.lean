import Derived.Test.YtmanoiagchpelaaGreatDoorKA4
import Derived.Laws.Cover1
set_option maxHeartbeats 0
set_option linter.all false
set_option maxRecDepth 100000
namespace Go.Proofs.YtmanoiagchpelaaGreatDoor
open Go.Proofs.Tryz Go.RowKit Go.Shelf
theorem ZK (s) (w):Calls prog 209 #[.string s] w fun e w'=>e=.returned (.bool false)/\w=w':=by
 go_enter func209,ntmps209
 go_wp2;go_ret;simp
theorem IV (a b) (w):Calls prog 167 #[.string a,.string b] w fun e w'=>e=.returned (.int .i64 (cmpB a b))/\w=w':=by
 obtain⟨r,h⟩:=zD (cmpB a b);rw[h.o];cases c:lexB a b with
 | true=>
  have g:Hid (r = -1):=by show r = -1;rw[<-h.o];unfold cmpB;rw[ze c]
  have j:Op.bytesLess a.toList b.toList=true:=c;clear c;go_enter func167,ntmps167;go_wp2_with fail
  refine (ZK _ _).mono ?_;rintro e w' ⟨rfl,rfl⟩;go_wp2_with fail
  refine (ZK _ _).mono ?_;rintro e w' ⟨rfl,rfl⟩;go_wp2;go_ret;exact⟨by rw[g.o];rfl,rfl⟩
 | false=>
  have j:Op.bytesLess a.toList b.toList=false:=c;cases d:lexB b a with
  | true=>
   have g:Hid (r=1):=(by show r=1;rw[<-h.o];unfold cmpB;rw[zb (by rw[c];decide),zb];intro e;subst e;rw[d]at c;cases c);have f:¬a.toList=b.toList:=fun e=>(by have:=kY e;subst this;rw[d]at c;cases c);have k:(a.toList==b.toList)=false:=(by rw[xr];exact f);clear c d f;go_enter func167,ntmps167;go_wp2_with fail
   refine (ZK _ _).mono ?_;rintro e w' ⟨rfl,rfl⟩;go_wp2_with fail
   refine (ZK _ _).mono ?_;rintro e w' ⟨rfl,rfl⟩;go_wp2;go_ret;exact⟨by rw[g.o];rfl,rfl⟩
  | false=>
   have g:Hid (r=0):=(by show r=0;rw[<-h.o];unfold cmpB;rw[zb (by rw[c];decide),ze (Z5 c d)]);have i:=Z5 c d;subst i;clear c d;go_enter func167,ntmps167;go_wp2_with fail
   refine (ZK _ _).mono ?_;rintro e w' ⟨rfl,rfl⟩;go_wp2_with fail
   refine (ZK _ _).mono ?_;rintro e w' ⟨rfl,rfl⟩;go_wp2;go_ret;exact⟨by rw[g.o];rfl,rfl⟩
theorem Ou (l) (c):decide (Lib.indexByte l c<0) = !(l.contains c):=by
 have h:∀l,-1<=Lib.indexByte l c:=by
  intro l
  induction l with
  | nil=>show (-1:Int) <= -1;omega
  | cons b l a=>unfold Lib.indexByte;split<;>(try split)<;>omega
 induction l with
 | nil=>rfl
 | cons b l a=>
  have k:=h l;unfold Lib.indexByte;by_cases f:b=c
  .subst f;simp
  .have d:¬c=b:=fun e=>f e.symm;by_cases g:Lib.indexByte l c = -1
   .rw[g]at a;simp at a;simp[f,d,g,a]
   .have j:¬(Lib.indexByte l c<0):=(by omega);have i:¬(Lib.indexByte l c+1<0):=(by omega);simp[j]at a;simp[f,d,g,i,a]
theorem ixb (s) (c:Nat) (_:c<256) (w):Calls prog 135 #[.string s,.int .u8 c] w fun e w'=>(∃r,e=.returned (.int .i64 r)/\decide (r<0) = !(s.data.toList.contains (UInt8.ofNat c)))/\w'=w:=by refine (Any.strings_IndexByte Tryz.lays137 s (c:Int) w).mono ?_;rintro e w' ⟨rfl,rfl⟩;refine⟨⟨_,rfl,?_⟩,rfl⟩;rw[Ou];simp
theorem ixz (s) (c:Nat) (a:c<256) (z) (b:s.data.toList.contains (UInt8.ofNat c)=z) (w):Calls prog 135 #[.string s,.int .u8 c] w fun e w'=>(∃r,e=.returned (.int .i64 r)/\decide (r<0) = !z)/\w'=w:=by rw[<-b];exact ixb s c a w
theorem Zd (s) (w):Calls prog 81 #[.string s] w fun e w'=>e=.returned (.bool (rW s))/\w=w':=by
 obtain⟨r,b⟩:=zD (rW s);obtain⟨z,c⟩:=zD (s.data.toList.contains 0);obtain⟨y,d⟩:=zD (s.data.toList.contains 47);have f:=za (fun w=>ixz s 0 (by omega) z c.o w);have g:=za (fun w=>ixz s 47 (by omega) y d.o w);have i:Hid (r=(!(s.toList==[])&&decide (s.size<=14)&&!(s.toList==[46])&&!(s.toList==[46,46])&&!z&&!y)):=by show _=_;rw[<-b.o,<-c.o,<-d.o];rfl
 rw[b.o];clear b c d;go_enter func81,ntmps81;cases z<;>cases y<;>go_wp2_with (go_at_call 135;(first|refine (f.o _).mono ?_|refine (g.o _).mono ?_);rintro e w' ⟨⟨q,rfl,h⟩,rfl⟩;simp at h)
 all_goals
  have j:decide (s.size<=14)=true\/decide (s.size<=14)=false:=by cases decide (s.size<=14)<;>simp
  go_ret;rw[i.o];refine⟨?_,rfl⟩
  first
   | simp[*];done
   | (
    have a:s.size<=14:=(by omega);simp[*];done)
   | (
    have a:¬s.size<=14:=(by omega);simp[*];done)
end Go.Proofs.YtmanoiagchpelaaGreatDoor
namespace Go.Proofs.YtmanoiagchpelaaGreatDoor
open Go.Proofs.Tryz Go.RowKit
variable {l:List En} {w:World}
def IdxP (T:En->Bool) (l:List En) (r:Int):Prop:=(r = -1/\∀x∈l,T x=false)\/∃(k:Nat) (hk:k<l.length),r=k/\T l[k]=true/\∀x∈l.take k,T x=false
def IdxE (T:En->Bool) (l:List En) (w:World) (e:Ending) (w':World):Prop:=∃r,e=.returned (.int .i64 r)/\IdxP T l r/\Below w w w'
theorem iT (a b:ByteArray):(a.toList==b.toList)=decide (a=b):=by rw[kA,vx,xw];exact⟨kY,fun e=>by rw[e]⟩
theorem XR (fid) (X:∀args w,(callFunc fid args).run prog w=.ok (.enter fid args) w) (c) (T) (v) (l) (w) (h:rM w v l) (Z:l.length<=1000000)
 (Y:∀x∈l,∀W,Below w w W->Calls prog fid #[.agg #[.string x.1,.int .i64 x.2],c] W fun e w'=>e=.returned (.bool (T x))/\Below W W w'):
 Calls prog 169 #[v,.func (.func fid) #[] #[c]] w (IdxE T l w):=by
 obtain⟨N,r⟩:=zA l.length;obtain⟨p,U,rfl,C⟩:=Zs h N r.o;have L:=za C;have G:=za Y;rw[<-r.o]at Z;clear h Y C;go_enter func169,ntmps169;go_wp2;go_loopw [8] (fun i wr=>∃k:Nat,k<=N/\i=.int .i64 k/\Hid (∀x∈l.take k,T x=false)/\Below w w wr) (fun i _=>N-(intOf i).toNat);case atStart=>exact⟨0,ye _,rfl,by show ∀x∈l.take 0,_;simp,zB⟩
 case round=>
  obtain⟨k,P,rfl,z,n⟩:=hrel;by_cases s:k<N
  .obtain⟨g,o,rfl,B,E⟩:=L.o (by omega);have d:k<l.length:=(by rw[<-r.o];exact s);have f:=E k d;have a:=G.o l[k] (zx d) _ n;obtain⟨x,S⟩:=zD (l[k]);obtain⟨V,A⟩:=zD (l[k].1);obtain⟨R,t⟩:=zD (l[k].2);rw[A.o,t.o]at f a;have Q:=(n.cell (p:=⟨g,o+k*2,none⟩) B).trans f.1;have I:=(n.cell (p:=⟨g,o+(k*2+1),none⟩) B).trans f.2;have J:=I;rw[<-yC]at J;obtain⟨b,u⟩:=zD (T l[k]);rw[u.o]at a;have M:Hid (b=false->∀y∈l.take (k+1),T y=false):=fun F y j=>by
    rw[<-zR d,yo,xt]at j;rcases j with j|rfl
    .exact z.o y j
    .rw[u.o];exact F
   have H:=za a;clear E f a;have D:k<(N:Int):=(by omega);go_wp2_with fail
   refine H.o.mono ?_;rintro e O ⟨rfl,q⟩;have m:=zf n q;clear q;cases b with
   | true=>
    go_wp2;go_ret;exact⟨k,rfl,zu ⟨k,d,rfl,u.o,z.o⟩,m⟩
   | false=>
    go_wp2;go_roundw;case rel=>exact⟨k+1,by omega,by go_num,fun y j=>M.o trivial y j,m⟩
    case measure=>simp[intOf];omega
  .have K:Hid (∀x∈l,T x=false):=(by have:=z.o;rw[zv (by rw[<-r.o];omega)]at this;exact this);go_wp2;go_ret;exact⟨-1,rfl,zr ⟨rfl,K.o⟩,n⟩
theorem XS (fid) (p:∀args w,(callFunc fid args).run prog w=.ok (.enter fid args) w) (c) (T) (v) (l) (w) (h:rM w v l) (s:l.length<=1000000)
 (q:∀x∈l,∀W,Below w w W->Calls prog fid #[.agg #[.string x.1,.int .i64 x.2],c] W fun e w'=>e=.returned (.bool (T x))/\Below W W w'):
 Calls prog 177 #[v,.func (.func fid) #[] #[c]] w fun e w'=>e=.returned (.bool (l.any T))/\Below w w w':=by
 have f:=za (XR fid p c T v l w h s q);obtain⟨g,a⟩:=zD (l.any T);rw[a.o];clear h q p;go_enter func177,ntmps177;go_wp2_with fail
 refine f.o.mono ?_;rintro e n ⟨r,rfl,b,i⟩;have j:=za b;clear b;go_wp2;go_ret;refine⟨?_,i⟩;have:g=decide (0<=r):=by
  rw[<-a.o];rcases j.o with⟨rfl,h⟩|⟨k,d,rfl,h,_⟩
  .rw[tq.2 (fun x m=>by rw[h x m];simp)];rfl
  .rw[wb.2 ⟨_,zx d,h⟩];have:0<=(k:Int):=(by omega);simp[this]
 rw[this];rfl
theorem NL (n) (y:En) (g) (W) (h:W.cell? ⟨g,0,none⟩=some (.string n)):
 Calls prog 207 #[.agg #[.string y.1,y.2],.pointer (some ⟨g,0,none⟩)] W fun e w'=>e=.returned (.bool (decide (n=y.1)))/\Below W W w':=by
 obtain⟨b,c⟩:=zD (decide (n=y.1));rw[c.o];have f:Hid ((n.toList==y.1.toList)=b):=by show _=_;rw[iT];exact c.o
 have a:Hid ((y.1.toList==n.toList)=b):=by show _=_;rw[Bool.beq_comm];exact f.out
 obtain⟨i,l⟩:=y;have j:g<W.heap.size:=zG h;have k:¬g=W.heap.size:=by omega
 have d:Hid (Below W W (W.alloc (.cells #[.string i,l] 46))):=zB.alloc zL _;clear c;go_enter func207,ntmps207;go_wp2;go_ret
 first
  | exact⟨by rw[<-f.out];rfl,d.o⟩
  | exact⟨by rw[<-a.out];rfl,d.o⟩
theorem Gt (args) (w):(callFunc 207 args).run prog w=.ok (.enter 207 args) w:=by simp[go_sem]
theorem Rw (n) (y:En) (g) (W) (h:W.cell? ⟨g,0,none⟩=some (.string n)):
 Calls prog 178 #[.agg #[.string y.1,y.2],.pointer (some ⟨g,0,none⟩)] W fun e w'=>e=.returned (.bool (decide (n=y.1)))/\Below W W w':=by
 obtain⟨b,c⟩:=zD (decide (n=y.1));rw[c.o];have f:Hid ((n.toList==y.1.toList)=b):=by show _=_;rw[iT];exact c.o
 have a:Hid ((y.1.toList==n.toList)=b):=by show _=_;rw[Bool.beq_comm];exact f.out
 obtain⟨i,l⟩:=y;have j:g<W.heap.size:=zG h;have k:¬g=W.heap.size:=by omega
 have d:Hid (Below W W (W.alloc (.cells #[.string i,l] 46))):=zB.alloc zL _;clear c;go_enter func178,ntmps178;go_wp2;go_ret
 first
  | exact⟨by rw[<-f.out];rfl,d.o⟩
  | exact⟨by rw[<-a.out];rfl,d.o⟩
theorem LW (args) (w):(callFunc 178 args).run prog w=.ok (.enter 178 args) w:=by simp[go_sem]
theorem RF (n) (y:En) (g) (W) (h:W.cell? ⟨g,0,none⟩=some (.string n)):
 Calls prog 170 #[.agg #[.string y.1,y.2],.pointer (some ⟨g,0,none⟩)] W fun e w'=>e=.returned (.bool (decide (n=y.1)))/\Below W W w':=by
 obtain⟨b,c⟩:=zD (decide (n=y.1));rw[c.o];have f:Hid ((n.toList==y.1.toList)=b):=by show _=_;rw[iT];exact c.o
 have a:Hid ((y.1.toList==n.toList)=b):=by show _=_;rw[Bool.beq_comm];exact f.out
 obtain⟨i,l⟩:=y;have j:g<W.heap.size:=zG h;have k:¬g=W.heap.size:=by omega
 have d:Hid (Below W W (W.alloc (.cells #[.string i,l] 46))):=zB.alloc zL _;clear c;go_enter func170,ntmps170;go_wp2;go_ret
 first
  | exact⟨by rw[<-f.out];rfl,d.o⟩
  | exact⟨by rw[<-a.out];rfl,d.o⟩
theorem LX (args) (w):(callFunc 170 args).run prog w=.ok (.enter 170 args) w:=by simp[go_sem]
theorem rM.take {p:Option Addr} {N cp:Nat} (h:rM w (p,N,cp) l) {k:Nat} (s:k<=l.length):rM w (p,k,cp) (l.take k):=by
 have a:(l.take k).length=k:=by rw[zj];omega
 refine⟨by rw[l3],?_⟩;rw[a];rcases vn k with b|b
 .exact zr ⟨b,p,cp,by rw[b]⟩
 .obtain⟨_,⟨q,_⟩|⟨g,o,m,f,n⟩⟩:=h
  .omega
  .injection f with d r i;subst d i;refine zu ⟨g,o,_,rfl,fun j x c=>n j x ?_⟩;have e:ents l=ents (l.take k)++ents (l.drop k):=(by rw[<-Zw,xC]);rw[e,zX (zJ.1 c).1];exact c
def kO (v:Value):Prop:=∀p n c,v=.slice p n c->n<=c
theorem rM.below {w':World} {v:Value} (h:rM w v l) (a:Below w w w'):rM w' v l:=wh.below h a
theorem TE (S) (x) (l):rD S (x::l)=if okE x=false then 3 else if S.any (fun y=>decide (x.1=y.1)) then 5 else rD (S++[x]) l:=by
 have:S.any (fun y=>decide (x.1=y.1))=S.any (fun y=>decide (y.1=x.1)):=by
  congr 1
  funext y
  rw[decide_eq_decide];exact eq_comm
 rw[this];rfl
theorem Iu (v:Value) (l:List En) (w:World) (h:rM w v l) (hv:kO v) (hl:l.length<=1000000):
 Calls prog 163 #[v] w fun e w'=>e=.returned (.int .i64 (sf l))/\Below w w w':=by
 obtain⟨r,L⟩:=zD (sf l);rw[L.o];obtain⟨N,u⟩:=zA l.length;obtain⟨p,cp,rfl,Z⟩:=Zs h N u.o;have HP:=za Z;have HE:=za h;have ae:N<=cp:=hv _ _ _ rfl;rw[<-u.o]at hl;clear h Z;by_cases C:32<N
 .have J:r=2:=by rw[<-L.o];unfold sf;rw[ze (by rw[<-u.o];exact C)]
  subst J;have z:(32:Int)<(N:Int):=by omega
  go_enter func163,ntmps163
  go_wp2;go_ret;exact⟨rfl,zB⟩
 have HR:Hid (rD [] l=r):=by show _=_;rw[<-L.o];unfold sf;rw[zb (by rw[<-u.o];exact C)]
 have z:¬(32:Int)<(N:Int):=by omega
 go_enter func163,ntmps163
 go_wp2;go_loopw [10] (fun i wr=>∃k:Nat,k<=N/\i=.int .i64 k/\Hid (rD (l.take k) (l.drop k)=r)/\Below w w wr) (fun i _=>N-(intOf i).toNat);case atStart=>exact⟨0,ye _,rfl,by show rD (l.take 0) (l.drop 0)=r;simpa using HR.o,zB⟩
 case round=>
  obtain⟨k,hk,rfl,HK,B⟩:=hrel;by_cases H:k<N
  .obtain⟨g,o,rfl,V,hc⟩:=HP.o (by omega);have m:k<l.length:=(by rw[<-u.o];exact H);have j:=hc k m;obtain⟨x,T⟩:=zD (l[k]);rw[T.o]at j;have q:=HK.o;rw[xp m,T.o,TE]at q;have F:=za q;have K:Hid (l.take k++[x]=l.take (k+1)):=(by show _=_;rw[<-T.o,zR m]);obtain⟨a,s⟩:=x;have c1:=(B.cell (p:=⟨g,o+k*2,none⟩) V).trans j.1;have c2:=(B.cell (p:=⟨g,o+(k*2+1),none⟩) V).trans j.2;have c3:=c2;rw[<-yC]at c3;have G:=za (HE.o.take (k:=k) (by omega));clear hc j q;have ab:(k:Int)<(N:Int):=(by omega);have af:(k:Int)<=(cp:Int):=(by omega);obtain⟨U,n⟩:=zD (rW a);have M:Hid (∀W:World,Calls prog 81 #[.string a] W fun e w'=>e=.returned (.bool U)/\W=w'):=fun W=>(by rw[<-n.o];exact Zd a W);have c:Hid (Below w w (wr.alloc (.cells #[.string a,s] 46))):=B.alloc B.size _;have X:=zT wr (.cells #[.string a,s] 46);have f:(wr.alloc (.cells #[.string a,s] 46)).cell? (wr.heap.size,0)=some (.string a):=zC X;have ai:=za f;obtain⟨b,Y⟩:=zD ((l.take k).any (fun y=>decide (a=y.1)));have t:=XS 207 Gt (wr.heap.size,()) (fun y=>decide (a=y.1)) _ (l.take k) _ (G.o.below c.o) (by rw[zj];omega) (fun y _ W hW=>NL a y wr W (by rw[hW.cell (zG f)];exact f));rw[Y.o]at t;have R:=za t;clear X f t;go_wp2_with fail
   refine (M.o _).mono ?_;rintro e w1 ⟨rfl,rfl⟩;cases U with
   | false=>
    have d:r=3:=(by rw[<-F.o,ze];unfold okE;rw[n.o];rfl);subst d;go_wp2;go_ret;exact⟨rfl,c.o⟩
   | true=>
    by_cases h1:s<1
    .have d:r=3:=(by rw[<-F.o,ze];unfold okE;simp;omega);subst d;go_wp2;go_ret;exact⟨rfl,c.o⟩
    by_cases h2:32<s
    .have d:r=3:=(by rw[<-F.o,ze];unfold okE;simp;omega);subst d;go_wp2;go_ret;exact⟨rfl,c.o⟩
    have S:Hid (okE (a,s)=true):=(by show _=_;unfold okE;rw[n.o];simp;omega);have A:Hid ((if b=true then 5 else rD (l.take (k+1)) (l.drop (k+1)))=r):=(by show _=_;have Q:=F.o;rw[zb (by rw[S.out];decide),K.o]at Q;have h4:((l.take k).any fun y=>decide ((a,s).1=y.1))=b:=Y.o;rw[h4]at Q;exact Q);go_wp2_with fail
    refine R.o.mono ?_;rintro e w2 ⟨rfl,E⟩;have D:=zf c.o E;clear E;cases b with
    | true=>
     have I:r=5:=A.o.symm;subst I;go_wp2;go_ret;exact⟨rfl,D⟩
    | false=>
     have P:Hid (rD (l.take (k+1)) (l.drop (k+1))=r):=A.o;go_wp2;go_roundw;case rel=>exact⟨k+1,by omega,by go_num,P,D⟩
     case measure=>simp[intOf];omega
  .have O:r=0:=(by have:=HK.o;rw[vN (by rw[<-u.o];omega)]at this;rw[<-this];rfl);subst O;go_wp2;go_ret;exact⟨rfl,B⟩
