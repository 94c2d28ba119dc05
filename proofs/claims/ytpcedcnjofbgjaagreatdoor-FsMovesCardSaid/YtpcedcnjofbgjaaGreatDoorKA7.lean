import Derived.Test.YtpcedcnjofbgjaaGreatDoorKA3
import Derived.Test.YtpcedcnjofbgjaaGreatDoorKA6
import Derived.Laws.Cover1
import Derived.Deep.OwnRows
import Derived.Deep.DeepCutAuto
set_option maxHeartbeats 0
set_option linter.all false
set_option maxRecDepth 100000
namespace Go.Proofs.YtpcedcnjofbgjaaGreatDoor
open Go.Proofs.Tryz Go.RowKit Go.Shelf
theorem Q7 (s) (w):Calls prog 190 #[.string s] w λe w'=>e=.returned (.bool false)/\w=w':=by
 go_enter func190,ntmps190
 go_wp2;go_ret;simp
theorem Sx (a b) (w):Calls prog 148 #[.string a,.string b] w λe w'=>e=.returned (cmpB a b:Int)/\w=w':=by
 obtain⟨r,h⟩:=zD (cmpB a b);rw[h.o];cases c:lexB a b with
 | true=>
  have g:Hid (r = -1):=by show r = -1;rw[<-h.o];unfold cmpB;rw[ze c]
  have j:Op.bytesLess a.toList b.toList=true:=c;clear c;go_enter func148,ntmps148;go_wp2_with fail
  refine (Q7 _ _).mono ?_;rintro e w' ⟨rfl,rfl⟩;go_wp2_with fail
  refine (Q7 _ _).mono ?_;rintro e w' ⟨rfl,rfl⟩;go_wp2;go_ret;exact⟨by rw[g.o];rfl,rfl⟩
 | false=>
  have j:Op.bytesLess a.toList b.toList=false:=c;cases d:lexB b a with
  | true=>
   have g:Hid (r=1):=(by show r=1;rw[<-h.o];unfold cmpB;rw[zb (by rw[c];decide),zb];intro e;subst e;rw[d]at c;cases c);have f:¬a.toList=b.toList:=λe=>(by have:=WS e;subst this;rw[d]at c;cases c);have k:(a.toList==b.toList)=false:=(by rw[yU];exact f);clear c d f;go_enter func148,ntmps148;go_wp2_with fail
   refine (Q7 _ _).mono ?_;rintro e w' ⟨rfl,rfl⟩;go_wp2_with fail
   refine (Q7 _ _).mono ?_;rintro e w' ⟨rfl,rfl⟩;go_wp2;go_ret;exact⟨by rw[g.o];rfl,rfl⟩
  | false=>
   have g:Hid (r=0):=(by show r=0;rw[<-h.o];unfold cmpB;rw[zb (by rw[c];decide),ze (jd c d)]);have i:=jd c d;subst i;clear c d;go_enter func148,ntmps148;go_wp2_with fail
   refine (Q7 _ _).mono ?_;rintro e w' ⟨rfl,rfl⟩;go_wp2_with fail
   refine (Q7 _ _).mono ?_;rintro e w' ⟨rfl,rfl⟩;go_wp2;go_ret;exact⟨by rw[g.o];rfl,rfl⟩
theorem KO (l) (c):decide (Lib.indexByte l c<0) = !(l.contains c):=by
 have h:∀l,-1<=Lib.indexByte l c:=by
  intro l
  induction l with
  | nil=>show (-1:Int) <= -1;omega
  | cons b l a=>unfold Lib.indexByte;split<;>(try split)<;>omega
 induction l with
 | nil=>rfl
 | cons b l a=>
  have k:=h l;unfold Lib.indexByte;by_cases f:b=c
  .subst f;simp
  .have d:¬c=b:=λe=>f e.symm;by_cases g:Lib.indexByte l c = -1
   .rw[g]at a;simp at a;simp[f,d,g,a]
   .have j:¬(Lib.indexByte l c<0):=(by omega);have i:¬(Lib.indexByte l c+1<0):=(by omega);simp[j]at a;simp[f,d,g,i,a]
theorem ixb (s) (c:Nat) (_:c<256) (w):Calls prog 110 #[.string s,.int .u8 c] w λe w'=>(∃r,e=.returned (r:Int)/\decide (r<0) = !(s.data.toList.contains (UInt8.ofNat c)))/\w'=w:=by refine (Any.strings_IndexByte Tryz.lays137 s (c:Int) w).mono ?_;rintro e w' ⟨rfl,rfl⟩;refine⟨⟨_,rfl,?_⟩,rfl⟩;rw[KO];simp
theorem ixz (s) (c:Nat) (a:c<256) (z) (b:s.data.toList.contains (UInt8.ofNat c)=z) (w):Calls prog 110 #[.string s,.int .u8 c] w λe w'=>(∃r,e=.returned (r:Int)/\decide (r<0) = !z)/\w'=w:=by rw[<-b];exact ixb s c a w
theorem PZ (s) (w):Calls prog 58 #[.string s] w λe w'=>e=.returned (.bool (tM s))/\w=w':=by
 obtain⟨r,b⟩:=zD (tM s);obtain⟨z,c⟩:=zD (s.data.toList.contains 0);obtain⟨y,d⟩:=zD (s.data.toList.contains 47);have f:=za (λw=>ixz s 0 (by omega) z c.o w);have g:=za (λw=>ixz s 47 (by omega) y d.o w);have i:Hid (r=(!(s.toList==[])&&decide (s.size<=14)&&!(s.toList==[46])&&!(s.toList==[46,46])&&!z&&!y)):=by show _=_;rw[<-b.o,<-c.o,<-d.o];rfl
 rw[b.o];clear b c d;go_enter func58,ntmps58;cases z<;>cases y<;>go_wp2_with (go_at_call 110;(first|refine (f.o _).mono ?_|refine (g.o _).mono ?_);rintro e w' ⟨⟨q,rfl,h⟩,rfl⟩;simp at h)
 all_goals
  have j:decide (s.size<=14)=true\/decide (s.size<=14)=false:=by cases decide (s.size<=14)<;>simp
  go_ret;rw[i.o];refine⟨?_,rfl⟩
  first
   | simp[*];done
   | (
    have a:s.size<=14:=(by omega);simp[*];done)
   | (
    have a:¬s.size<=14:=(by omega);simp[*];done)
end Go.Proofs.YtpcedcnjofbgjaaGreatDoor
namespace Go.Proofs.YtpcedcnjofbgjaaGreatDoor
open Go.Proofs.Tryz Go.RowKit
variable {B b1 b2:Nat} {L P:List Int} {W w w2:World} {g k l m s u up:Int} {o1 o2:Obj} {v:Value}
def IdxP (T:En->Bool) (l:List En) (r:Int):Prop:=(r = -1/\∀x∈l,T x=false)\/∃(k:Nat) (hk:k<l.length),r=k/\T l[k]=true/\∀x∈l.take k,T x=false
def IdxE (T:En->Bool) (l:List En) (w:World) (e:Ending) (w':World):Prop:=∃r,e=.returned (r:Int)/\IdxP T l r/\Below w w w'
theorem jU (a b:ByteArray):(a.toList==b.toList)=decide (a=b):=by rw[nJ,wX,xe];exact⟨WS,λe=>by rw[e]⟩
theorem WD (fid) (X:∀args w,(callFunc fid args).run prog w=.ok (.enter fid args) w) (c) (T) (v) (l) (w) (h:qM w v l) (Z:l.length<=1000000)
 (Y:∀x∈l,∀W,Below w w W->Calls prog fid #[.agg #[.string x.1,.int .i64 x.2],c] W (κ W (.bool (T x)))):
 Calls prog 151 #[v,.func (.func fid) #[] #[c]] w (IdxE T l w):=by
 obtain⟨N,r⟩:=zA l.length;obtain⟨p,U,rfl,C⟩:=kJ h N r.o;have L:=za C;have G:=za Y;rw[<-r.o]at Z;clear h Y C;go_enter func151,ntmps151;go_wp2;go_loopw [8] (λi wr=>∃k:Nat,k<=N/\i=.int .i64 k/\Hid (∀x∈l.take k,T x=false)/\Below w w wr) (λi _=>N-(intOf i).toNat)
 .exact⟨0,yh _,rfl,by show ∀x∈l.take 0,_;simp,zB⟩
 .obtain⟨k,P,rfl,z,n⟩:=hrel;by_cases s:k<N
  .obtain⟨g,o,rfl,B,E⟩:=L.o (by omega);have d:k<l.length:=(by rw[<-r.o];exact s);have f:=E k d;have a:=G.o l[k] (Nj d) _ n;obtain⟨x,S⟩:=zD (l[k]);obtain⟨V,A⟩:=zD (l[k].1);obtain⟨R,t⟩:=zD (l[k].2);rw[A.o,t.o]at f a;have Q:=(n.cell (p:=⟨g,o+k*2,none⟩) B).trans f.1;have I:=(n.cell (p:=⟨g,o+(k*2+1),none⟩) B).trans f.2;have J:=I;rw[<-yp]at J;obtain⟨b,u⟩:=zD (T l[k]);rw[u.o]at a;have M:Hid (b=false->∀y∈l.take (k+1),T y=false):=λF y j=>by
    rw[<-zU d,yN,xZ]at j;rcases j with j|rfl
    .exact z.o y j
    .rw[u.o];exact F
   have H:=za a;clear E f a;have D:k<(N:Int):=(by omega);go_wp2_with fail
   refine H.o.mono ?_;rintro e O ⟨rfl,q⟩;have m:=zi n q;clear q;cases b with
   | true=>
    go_wp2;go_ret;exact⟨k,rfl,zw ⟨k,d,rfl,u.o,z.o⟩,m⟩
   | false=>
    go_wp2;go_roundw
    .exact⟨k+1,by omega,by go_num,λy j=>M.o trivial y j,m⟩
    .simp[intOf];omega
  .have K:Hid (∀x∈l,T x=false):=(by have:=z.o;rw[zo (by rw[<-r.o];omega)]at this;exact this);go_wp2;go_ret;exact⟨-1,rfl,zu ⟨rfl,K.o⟩,n⟩
theorem nT (fid) (p:∀args w,(callFunc fid args).run prog w=.ok (.enter fid args) w) (c) (T) (v) (l) (w) (h:qM w v l) (s:l.length<=1000000)
 (q:∀x∈l,∀W,Below w w W->Calls prog fid #[.agg #[.string x.1,.int .i64 x.2],c] W (κ W (.bool (T x)))):
 Calls prog 154 #[v,.func (.func fid) #[] #[c]] w (κ w (.bool (l.any T))):=by
 have f:=za (WD fid p c T v l w h s q);obtain⟨g,a⟩:=zD (l.any T);rw[a.o];clear h q p;go_enter func154,ntmps154;go_wp2_with fail
 refine f.o.mono ?_;rintro e n ⟨r,rfl,b,i⟩;have j:=za b;clear b;go_wp2;go_ret;refine⟨?_,i⟩;have:g=decide (0<=r):=by
  rw[<-a.o];rcases j.o with⟨rfl,h⟩|⟨k,d,rfl,h,_⟩
  .rw[pw.2 (λx m=>by rw[h x m];simp)];rfl
  .rw[xO.2 ⟨_,Nj d,h⟩];have:0<=(k:Int):=(by omega);simp[this]
 rw[this];rfl
theorem jC (n) (y:En) (g) (W) (h:W.cell? ⟨g,0,none⟩=some (.string n)):
 Calls prog 217 #[.agg #[.string y.1,y.2],.pointer (some ⟨g,0,none⟩)] W (κ W (.bool (decide (n=y.1)))):=by
 obtain⟨b,c⟩:=zD (decide (n=y.1));rw[c.o];have f:Hid ((n.toList==y.1.toList)=b):=by show _=_;rw[jU];exact c.o
 have a:Hid ((y.1.toList==n.toList)=b):=by show _=_;rw[Bool.beq_comm];exact f.out
 obtain⟨i,l⟩:=y;have j:g<W.heap.size:=zy h;have k:¬g=W.heap.size:=by omega
 have d:Hid (Below W W (W.alloc (.cells #[.string i,l] 112))):=zB.alloc zL _;clear c;go_enter func217,ntmps217;go_wp2;go_ret
 first
  | exact⟨by rw[<-f.out];rfl,d.o⟩
  | exact⟨by rw[<-a.out];rfl,d.o⟩
theorem Oh (args) (w):(callFunc 217 args).run prog w=.ok (.enter 217 args) w:=by simp[go_sem]
theorem Hv (n) (y:En) (g) (W) (h:W.cell? ⟨g,0,none⟩=some (.string n)):
 Calls prog 155 #[.agg #[.string y.1,y.2],.pointer (some ⟨g,0,none⟩)] W (κ W (.bool (decide (n=y.1)))):=by
 obtain⟨b,c⟩:=zD (decide (n=y.1));rw[c.o];have f:Hid ((n.toList==y.1.toList)=b):=by show _=_;rw[jU];exact c.o
 have a:Hid ((y.1.toList==n.toList)=b):=by show _=_;rw[Bool.beq_comm];exact f.out
 obtain⟨i,l⟩:=y;have j:g<W.heap.size:=zy h;have k:¬g=W.heap.size:=by omega
 have d:Hid (Below W W (W.alloc (.cells #[.string i,l] 112))):=zB.alloc zL _;clear c;go_enter func155,ntmps155;go_wp2;go_ret
 first
  | exact⟨by rw[<-f.out];rfl,d.o⟩
  | exact⟨by rw[<-a.out];rfl,d.o⟩
theorem Uj (args) (w):(callFunc 155 args).run prog w=.ok (.enter 155 args) w:=by simp[go_sem]
theorem Gj (n) (y:En) (g) (W) (h:W.cell? ⟨g,0,none⟩=some (.string n)):
 Calls prog 152 #[.agg #[.string y.1,y.2],.pointer (some ⟨g,0,none⟩)] W (κ W (.bool (decide (n=y.1)))):=by
 obtain⟨b,c⟩:=zD (decide (n=y.1));rw[c.o];have f:Hid ((n.toList==y.1.toList)=b):=by show _=_;rw[jU];exact c.o
 have a:Hid ((y.1.toList==n.toList)=b):=by show _=_;rw[Bool.beq_comm];exact f.out
 obtain⟨i,l⟩:=y;have j:g<W.heap.size:=zy h;have k:¬g=W.heap.size:=by omega
 have d:Hid (Below W W (W.alloc (.cells #[.string i,l] 112))):=zB.alloc zL _;clear c;go_enter func152,ntmps152;go_wp2;go_ret
 first
  | exact⟨by rw[<-f.out];rfl,d.o⟩
  | exact⟨by rw[<-a.out];rfl,d.o⟩
theorem Uq (args) (w):(callFunc 152 args).run prog w=.ok (.enter 152 args) w:=by simp[go_sem]
theorem qM.take {p:Option Addr} {N cp:Nat} {l:List En} (h:qM w (p,N,cp) l) {k:Nat} (s:k<=l.length):qM w (p,k,cp) (l.take k):=by
 have a:(l.take k).length=k:=by rw[Ni];omega
 refine⟨by rw[NO],?_⟩;rw[a];rcases wM k with b|b
 .exact zu ⟨b,p,cp,by rw[b]⟩
 .obtain⟨_,⟨q,_⟩|⟨g,o,m,f,n⟩⟩:=h
  .omega
  .injection f with d r i;subst d i;refine zw ⟨g,o,_,rfl,λj x c=>n j x ?_⟩;have e:ents l=ents (l.take k)++ents (l.drop k):=(by rw[<-ro,xr]);rw[e,zV (zG.1 c).1];exact c
def FW (v:Value):Prop:=∀p n c,v=.slice p n c->n<=c
theorem qM.below {w':World} {l:List En} (h:qM w v l) (a:Below w w w'):qM w' v l:=uq.below h a
theorem Jm (S) (x) (l):rD S (x::l)=if okE x=false then 3 else if S.any (λy=>decide (x.1=y.1)) then 5 else rD (S++[x]) l:=by
 have:S.any (λy=>decide (x.1=y.1))=S.any (λy=>decide (y.1=x.1)):=by
  congr 1
  funext y
  rw[decide_eq_decide];exact eq_comm
 rw[this];rfl
theorem Qi (v:Value) (l:List En) (w:World) (h:qM w v l) (hv:FW v) (hl:l.length<=1000000):
 Calls prog 185 #[v] w (κ w (ud l:Int)):=by
 obtain⟨r,L⟩:=zD (ud l);rw[L.o];obtain⟨N,u⟩:=zA l.length;obtain⟨p,cp,rfl,Z⟩:=kJ h N u.o;have HP:=za Z;have HE:=za h;have ae:N<=cp:=hv _ _ _ rfl;rw[<-u.o]at hl;clear h Z;by_cases C:32<N
 .have J:r=2:=by rw[<-L.o];unfold ud;rw[ze (by rw[<-u.o];exact C)]
  subst J;have z:(32:Int)<(N:Int):=by omega
  go_enter func185,ntmps185
  go_wp2;go_ret;exact⟨rfl,zB⟩
 have HR:Hid (rD [] l=r):=by show _=_;rw[<-L.o];unfold ud;rw[zb (by rw[<-u.o];exact C)]
 have z:¬(32:Int)<(N:Int):=by omega
 go_enter func185,ntmps185
 go_wp2;go_loopw [10] (λi wr=>∃k:Nat,k<=N/\i=.int .i64 k/\Hid (rD (l.take k) (l.drop k)=r)/\Below w w wr) (λi _=>N-(intOf i).toNat)
 .exact⟨0,yh _,rfl,by show rD (l.take 0) (l.drop 0)=r;simpa using HR.o,zB⟩
 .obtain⟨k,hk,rfl,HK,B⟩:=hrel;by_cases H:k<N
  .obtain⟨g,o,rfl,V,hc⟩:=HP.o (by omega);have m:k<l.length:=(by rw[<-u.o];exact H);have j:=hc k m;obtain⟨x,T⟩:=zD (l[k]);rw[T.o]at j;have q:=HK.o;rw[yR m,T.o,Jm]at q;have F:=za q;have K:Hid (l.take k++[x]=l.take (k+1)):=(by show _=_;rw[<-T.o,zU m]);obtain⟨a,s⟩:=x;have c1:=(B.cell (p:=⟨g,o+k*2,none⟩) V).trans j.1;have c2:=(B.cell (p:=⟨g,o+(k*2+1),none⟩) V).trans j.2;have c3:=c2;rw[<-yp]at c3;have G:=za (HE.o.take (k:=k) (by omega));clear hc j q;have ab:(k:Int)<(N:Int):=(by omega);have af:(k:Int)<=(cp:Int):=(by omega);obtain⟨U,n⟩:=zD (tM a);have M:Hid (∀W:World,Calls prog 58 #[.string a] W λe w'=>e=.returned (.bool U)/\W=w'):=λW=>(by rw[<-n.o];exact PZ a W);have c:Hid (Below w w (wr.alloc (.cells #[.string a,s] 112))):=B.alloc B.size _;have X:=zO wr (.cells #[.string a,s] 112);have f:(wr.alloc (.cells #[.string a,s] 112)).cell? (wr.heap.size,0)=some (.string a):=zC X;have ai:=za f;obtain⟨b,Y⟩:=zD ((l.take k).any (λy=>decide (a=y.1)));have t:=nT 217 Oh (wr.heap.size,()) (λy=>decide (a=y.1)) _ (l.take k) _ (G.o.below c.o) (by rw[Ni];omega) (λy _ W hW=>jC a y wr W (by rw[hW.cell (zy f)];exact f));rw[Y.o]at t;have R:=za t;clear X f t;go_wp2_with fail
   refine (M.o _).mono ?_;rintro e w1 ⟨rfl,rfl⟩;cases U with
   | false=>
    have d:r=3:=(by rw[<-F.o,ze];unfold okE;rw[n.o];rfl);subst d;go_wp2;go_ret;exact⟨rfl,c.o⟩
   | true=>
    by_cases h1:s<1
    .have d:r=3:=(by rw[<-F.o,ze];unfold okE;simp;omega);subst d;go_wp2;go_ret;exact⟨rfl,c.o⟩
    by_cases h2:32<s
    .have d:r=3:=(by rw[<-F.o,ze];unfold okE;simp;omega);subst d;go_wp2;go_ret;exact⟨rfl,c.o⟩
    have S:Hid (okE (a,s)=true):=(by show _=_;unfold okE;rw[n.o];simp;omega);have A:Hid ((if b=true then 5 else rD (l.take (k+1)) (l.drop (k+1)))=r):=(by show _=_;have Q:=F.o;rw[zb (by rw[S.out];decide),K.o]at Q;have h4:((l.take k).any λy=>decide ((a,s).1=y.1))=b:=Y.o;rw[h4]at Q;exact Q);go_wp2_with fail
    refine R.o.mono ?_;rintro e w2 ⟨rfl,E⟩;have D:=zi c.o E;clear E;cases b with
    | true=>
     have I:r=5:=A.o.symm;subst I;go_wp2;go_ret;exact⟨rfl,D⟩
    | false=>
     have P:Hid (rD (l.take (k+1)) (l.drop (k+1))=r):=A.o;go_wp2;go_roundw
     .exact⟨k+1,by omega,by go_num,P,D⟩
     .simp[intOf];omega
  .have O:r=0:=(by have:=HK.o;rw[vd (by rw[<-u.o];omega)]at this;rw[<-this];rfl);subst O;go_wp2;go_ret;exact⟨rfl,B⟩
theorem JO (n):madeCells #[Value.int .u8 0] n=(u8s (List.replicate n 0)).toArray:=by
 apply yV;intro i;unfold madeCells u8s;by_cases h:i<n
 .simp[h,nf]
 .simp[h]
theorem Mj (n:Nat) (x:Int) (a:x=n) (b:n<=1000000) (W):(Instr.makeSlice 38 (.int .i64 x) (.int .i64 x)).run prog W=.ok (.slice (some ⟨W.heap.size,0,none⟩) n n) (W.alloc (.cells (u8s (List.replicate n 0)).toArray 5)):=by subst a;rw[<-JO];exact run_make_row' 38 5 (.int .u8 0) 1 u8sT R5 rfl .i64 .i64 n (by omega) (by omega) W
section
variable {w : World} {gd gs gn : Nat} {wt : Value} {E : List (Nat×Value)} {st : Dk} {L k : Nat} {F : Nat->Prop}
end
def tc (k m u g s l up:Int) (P:List Int):List Int:=
 if k=0 then List.replicate 32 0 else [k,m%256,m / 256,u,g,s%256,s / 256,l,up]++qK (ofE P)++List.replicate 7 0
theorem IG (W):(Instr.makeSlice 38 (.int .i64 32) (.int .i64 32)).run prog W=.ok (.slice (some ⟨W.heap.size,0,none⟩) 32 32) (W.alloc (.cells (byts (List.replicate 32 0)) 5)):=by kernel_rfl
theorem M6 (k m u g s l up) (v) (P) (w) (h:tP w v P) (i:P.length<=1000000) (c) (j:Hid (tm k m u g s l up P=c)) (n:(c != 0)=true):
 Calls prog 89 #[.agg #[(k:Int),(m:Int),(u:Int),(g:Int),(s:Int),(l:Int),(up:Int),v]] w (κ w (.tuple #[.slice none 0 0,(c:Int)])):=by
 have b:Hid (∀o,Below w w (w.alloc o)):=λo=>zB.alloc zL o;have H:Hid (∀o,tP (w.alloc o) v P):=λo=>uq.below h (b.o o);clear h;go_enter func89,ntmps89;go_wp2_with fail
 refine (PI k m u g s l up v P _ (H.o _) i).mono ?_;rw[j.out];rintro e f ⟨rfl,a⟩;have d:=zi (b.o _) a;clear a;go_wp2;go_ret2;exact⟨rfl,d⟩
def S7 (k m u g s l up:Int) (P:List Int) (w:World) (e:Ending) (w':World):Prop:=
 ∃b,e=.returned (.tuple #[.slice (some ⟨b,0,none⟩) 32 32,()])/\w.heap.size<=b/\w'.heap[b]?=some (.cells (byts (tc k m u g s l up P)) 5)/\Below w w w'
theorem jH (v) (w) (h:tP w v []):
 Calls prog 89 #[.agg #[(),(),(),(),(),(),(),v]] w (S7 0 0 0 0 0 0 0 [] w):=by
 have i:Hid (∀o,Below w w (w.alloc o)):=λo=>zB.alloc zL o;have H:Hid (∀o,tP (w.alloc o) v []):=λo=>uq.below h (i.o o);obtain⟨j,f⟩:=zA (byts (List.replicate 32 0));have l:∀W,(Instr.makeSlice 38 (.int .i64 32) (.int .i64 32)).run prog W=.ok (.slice (some ⟨W.heap.size,0,none⟩) 32 32) (W.alloc (.cells j 5)):=λW=>by rw[f.o];exact IG W
 clear h;go_enter func89,ntmps89;go_wp2_with fail
 refine (PI 0 0 0 0 0 0 0 v [] _ (H.o _) (by simp)).mono ?_;have g:tm 0 0 0 0 0 0 0 []=0:=rfl;rw[g];rintro e c ⟨rfl,a⟩;have d:=zi (i.o _) a;have b:=xV a (zO w _);have n:=(ug b).1;have k:=xB b;have m:Hid ((c.alloc (.cells j 5)).heap[c.heap.size]?=some (.cells (byts (tc 0 0 0 0 0 0 0 [])) 5)):=by
  have e:tc 0 0 0 0 0 0 0 []=List.replicate 32 0:=by unfold tc;rw[ze rfl]
  rw[e,<-f.o];exact zH
 clear a g b;go_wp2;go_ret2;exact⟨c.heap.size,rfl,d.size,m.o,d.alloc d.size _⟩
-- GOOD
theorem Fx (l) (i) (x):(byts l).setIfInBounds i (.int .u8 x)=byts (l.set i x):=by unfold byts;rw[zP,uk]
theorem Pf (h:tm k m u g s l up P=0) (f:¬k=0):
 (1<=k/\k<=3)/\(0<=m/\m<=511)/\(0<=u/\u<=255)/\(0<=g/\g<=255)/\(0<=s/\s<=512)/\(0<=l/\l<=200)/\(0<=up/\up<=32)/\mT P=0/\P.length=jy s:=by
 unfold tm at h;rw[zb f]at h;by_cases c:k<0\/3<k\/m<0\/511<m\/u<0\/255<u\/g<0\/255<g\/l<0\/200<l
 .rw[ze c]at h;cases h
 rw[zb c]at h;by_cases b:s<0\/512<s
 .rw[ze b]at h;cases h
 rw[zb b]at h;by_cases d:(k=2/\(up<1\/32<up))\/(k≠2/\up≠0)
 .rw[ze d]at h;cases h
 rw[zb d]at h;by_cases a:mT P≠0
 .rw[ze a]at h;exact yi h a
 rw[zb a]at h;by_cases e:(P.length:Int)≠jy s
 .rw[ze e]at h;cases h
 refine⟨by omega,by omega,by omega,by omega,by omega,by omega,by omega,by omega,by omega⟩
def l5 (L:List Int) (y0 y1 y2 y3 y4:Int):List Int:=((((L.set 0 y0).set 1 y1).set 2 y2).set 3 y3).set 4 y4
def l4 (L:List Int) (y5 y6 y7 y8:Int):List Int:=(((L.set 5 y5).set 6 y6).set 7 y7).set 8 y8
def mP (w:World) (b2 B b1:Nat) (o1 o2:Obj) (L:List Int) (W:World):Prop:=
 W.heap[B]?=some (.cells (byts L) 5)/\W.heap[b1]?=some o1/\W.heap[b2]?=some o2/\Below w w W
theorem mP.set (h:mP w b2 B b1 o1 o2 L W) (a:b1≠B) (b:b2≠B) (c:w.heap.size<=B) (i) (y):mP w b2 B b1 o1 o2 (L.set i y) (W.setCell ⟨B,i,none⟩ (.int .u8 y)):=by refine⟨?_,(yj _ _ _ b1 a).trans h.2.1,(yj _ _ _ b2 b).trans h.2.2.1,h.2.2.2.setCell c _⟩;have:=zT _ _ i _ _ (.int .u8 y) h.1;rw[Fx]at this;exact this
theorem mP.drew (h:mP w b2 B b1 o1 o2 L W):mP w b2 B b1 o1 o2 L W.drew:=⟨h.1,h.2.1,h.2.2.1,h.2.2.2.drew⟩
theorem CH (h:mP w b2 B b1 o1 o2 L w2) (a:b1≠B) (b:b2≠B) (c:w.heap.size<=B) (y0 y1 y2 y3 y4):mP w b2 B b1 o1 o2 (l5 L y0 y1 y2 y3 y4) (((((w2.setCell (B,0) (.int .u8 y0)).setCell (B,1) (.int .u8 y1)).setCell (B,2) (.int .u8 y2)).setCell (B,3) (.int .u8 y3)).setCell (B,4) (.int .u8 y4)).drew:=
 (((((h.set a b c 0 y0).set a b c 1 y1).set a b c 2 y2).set a b c 3 y3).set a b c 4 y4).drew
theorem CI (h:mP w b2 B b1 o1 o2 L w2) (a:b1≠B) (b:b2≠B) (c:w.heap.size<=B) (y0 y1 y2 y3):mP w b2 B b1 o1 o2 (l4 L y0 y1 y2 y3) ((((w2.setCell (B,5) (.int .u8 y0)).setCell (B,6) (.int .u8 y1)).setCell (B,7) (.int .u8 y2)).setCell (B,8) (.int .u8 y3)).drew:=
 ((((h.set a b c 5 y0).set a b c 6 y1).set a b c 7 y2).set a b c 8 y3).drew
theorem mP.zero {y0 y1 y2 y3 y4:Int} (h:mP w b2 B b1 o1 o2 (l5 (List.replicate 32 0) y0 y1 y2 y3 y4) W) (j) (b:5<=j) (a:j<32):W.cell? ⟨B,j,none⟩=some (.int .u8 0):=by rw[zC h.1];unfold byts l5;rw[xw,xE,Ce (by omega),Ce (by omega),Ce (by omega),Ce (by omega),Ce (by omega),vx,ze a];rfl
theorem mP.free (h:mP w b2 B b1 o1 o2 L W) (j):W.frozen? ⟨B,j,none⟩=false:=zF h.1
theorem mO {a:World} (h:Below B a w) {g:Nat} (c:B<=g) (cs):Below B a (w.setRow g cs):=
 ⟨h.os,h.tape,h.output,by simpa using h.size,λi b=>(yO w g i cs (by omega)).trans (h.block i b)⟩
theorem Gf (_hp:(qK (ofE P)).length=16) (a:¬k=0):
 ((byts (l4 (l5 (List.replicate 32 0) k (m%256) (m / 256) u g) (s%256) (s / 256) l up)).toList.take 9++u8s (qK (ofE P))++(byts (l4 (l5 (List.replicate 32 0) k (m%256) (m / 256) u g) (s%256) (s / 256) l up)).toList.drop (9+16)).toArray=byts (tc k m u g s l up P):=by
 unfold tc;rw[zb a];unfold byts;rw[yo,yo];rfl
theorem jG (k m u g s l up) (v) (P) (w) (h:tP w v P) (hr:tm k m u g s l up P=0) (hk:¬k=0):
 Calls prog 89 #[.agg #[(k:Int),(m:Int),(u:Int),(g:Int),(s:Int),(l:Int),(up:Int),v]] w (S7 k m u g s l up P w):=by
 obtain⟨⟨k0,k1⟩,⟨m0,m1⟩,⟨u0,u1⟩,⟨g0,g1⟩,⟨s0,s1⟩,⟨l0,l1⟩,⟨an,a5⟩,C,ad⟩:=Pf hr hk;clear ad;have S:Hid (∀o,Below w w (w.alloc o)):=λo=>zB.alloc zL o;have H:Hid (∀o,tP (w.alloc o) v P):=λo=>uq.below h (S.o o);obtain⟨O,Y⟩:=zA (byts (List.replicate 32 0));have ab:∀W,(Instr.makeSlice 38 (.int .i64 32) (.int .i64 32)).run prog W=.ok (.slice (some ⟨W.heap.size,0,none⟩) 32 32) (W.alloc (.cells O 5)):=λW=>by rw[Y.o];exact IG W
 have HR:=za hr;have t:=za C;have ao:(k==0)=false:=by simpa using hk
 have a0:(k != 0)=true:=by simpa using hk
 have HK:=za hk;clear h hr C hk;go_enter func89,ntmps89;go_wp2_with fail
 refine (PI k m u g s l up v P _ (H.o _) (by have:=gV t.o;omega)).mono ?_;rw[HR.o];rintro e z ⟨rfl,p⟩;have q:=zi (S.o _) p;have K:=xV p (zO w (.cells #[k,m,u,g,s,l,up,v] 102));have H1:Hid (∀o,tP (z.alloc o) v P):=λo=>uq.below (uq.below (H.o _) p) (zB.alloc zL o);have Q1:=za K;have c0:=(ug K).1;have c7:=(ug K).2.2.2.2.2.2.2;have D:=xB K;clear K p;go_wp2_with fail
 refine (Qn _ P _ (H1.o _) t.o).mono ?_;rintro e w2 ⟨r,rfl,ai,G,i⟩;have q2:=xV i (un Q1.out (.cells O 5));have M:=xV i (zO z (.cells O 5));have E:=zi (q.alloc q.size _) i;have J:=za G;have F:z.heap.size<r:=by have:(z.alloc (.cells O 5)).heap.size=z.heap.size+1:=(by simp);omega
 have L:=xB M;obtain⟨B,HB⟩:=zA z.heap.size;rw[<-HB.o]at M L F |-;have R:=za M;have N:Hid (mP w r B w (.cells #[k,m,u,g,s,l,up,v] 102) (.cells (byts (qK (ofE P))) 5) (List.replicate 32 0) w2):=⟨by rw[<-Y.o];exact M,q2,J.o,E⟩;obtain⟨X,d1,Q,Z,d4,d5,V,T⟩:=ug q2;have A:¬w.heap.size=B:=by rw[HB.o];omega
 have f:w.heap.size<=B:=by rw[HB.o];omega
 have b:∀j,j<32->w2.cell? ⟨B,j,none⟩=some (.int .u8 0):=λj hj=>by rw[zC R.out,Y.o];unfold byts;rw[xw,xE,vx,ze hj];rfl
 have x0:=b 0 (by omega);have x1:=b 1 (by omega);have x2:=b 2 (by omega);have x3:=b 3 (by omega);have x4:=b 4 (by omega);have y:∀j,w2.frozen? ⟨B,j,none⟩=false:=λj=>zF R.out;have f0:=y 0;have f1:=y 1;have f2:=y 2;have f3:=y 3;have f4:=y 4;clear c0 c7 M q2 G i b y ab ai E q R J Q1 H1 S H D
 go_upto_region 10 with fail
 go_cut [5] (λs5 U=>s5=.slice (some ⟨B,0,none⟩) 32 32/\Hid (mP w r B w (.cells #[k,m,u,g,s,l,up,v] 102) (.cells (byts (qK (ofE P))) 5) (l5 (List.replicate 32 0) k (m%256) (m / 256) u g) U))
 case first=>
  go_region
  all_goals
   go_wp2_with fail
   go_meet
   case rel=>exact⟨rfl,CH N.o A (by omega) f k (m%256) (m / 256) u g⟩
 case rest=>
  obtain⟨rfl,a⟩:=hcut;clear X d1 Q Z d4 d5 V T x0 x1 x2 x3 x4 f0 f1 f2 f3 f4 N;obtain⟨X,d1,Q,Z,d4,d5,V,T⟩:=ug a.o.2.1;have x5:=a.o.zero 5 (by omega) (by omega);have x6:=a.o.zero 6 (by omega) (by omega);have x7:=a.o.zero 7 (by omega) (by omega);have x8:=a.o.zero 8 (by omega) (by omega);have f5:=a.o.free 5;have f6:=a.o.free 6;have f7:=a.o.free 7;have f8:=a.o.free 8
  go_upto_region 11 with fail
  go_cut [5] (λs5 U=>s5=.slice (some ⟨B,0,none⟩) 32 32/\Hid (mP w r B w (.cells #[k,m,u,g,s,l,up,v] 102) (.cells (byts (qK (ofE P))) 5) (l4 (l5 (List.replicate 32 0) k (m%256) (m / 256) u g) (s%256) (s / 256) l up) U))
  case first=>
   go_region
   all_goals
    go_wp2_with fail
    go_meet
    case rel=>exact⟨rfl,CI a.o A (by omega) f (s%256) (s / 256) l up⟩
  case rest=>
   obtain⟨rfl,n⟩:=hcut;clear X d1 Q Z d4 d5 V T x5 x6 x7 x8 f5 f6 f7 f8 a;go_wp2_with fail
   have c:=RC t.o;have d:=tR (P:=prog) wc 38 38 3 5 B 9 23 23 ⟨r,0,none⟩ 16 16 _ 5 (u8s (qK (ofE P))) (by kernel_rfl) (by kernel_rfl) n.o.1 (by rw[wd,c];rfl)
    (λj x hx=>by have I:(⟨r,0,none⟩:Addr).add j=⟨r,j,none⟩:=(by unfold Addr.add;split<;>simp_all);rw[I,zC n.o.2.2.1];unfold byts;rw[xw];exact hx) (by rw[wd,c];simp[byts,l4,l5]) (gZ _)
   rw[wd,c,Gf c HK.o]at d;have HP:Hid (S7 k m u g s l up P w (.returned (.tuple #[.slice (some ⟨B,0,none⟩) 32 32,()])) (wc.setRow B (byts (tc k m u g s l up P)))):=
    ⟨B,rfl,f,ya _ _ _ _ _ _ n.o.1,mO n.o.2.2.2 f _⟩
   rw[d];clear d c;go_wp2;go_ret2;exact HP.o
theorem or_nat (a b:Nat) (g:a<256) (h:b<256):bits .or .i64 a (b*256)=a+b*256:=by
 have d:(b*256)=((b*256:Nat):Int):=by omega
 have c:(BitVec.ofInt 64 a).toNat=a:=by rw[sR,BitVec.toNat_ofNat];exact wz (by omega)
 have f:(BitVec.ofInt 64 ((b*256:Nat))).toNat=b*256:=by rw[sR,BitVec.toNat_ofNat];exact wz (by omega)
 rw[d];show IntKind.i64.wrap ((BitVec.ofInt 64 (a:Int) ||| BitVec.ofInt 64 ((b*256:Nat):Int)).toNat:Int)=_;have e:a ||| b*256=b*256+a:=by have:=Nat.shiftLeft_add_eq_or_of_lt (i:=8) (b:=a) (by omega) b;rw[Nat.shiftLeft_eq]at this;rw[Nat.or_comm];exact this.symm
 rw[BitVec.toNat_or,c,f,e,zM _ (by omega)];omega
theorem E0 (a b) (c:0<=a) (d:a<=255) (e:0<=b) (f:b<=255):bits .or .i64 a (b*256)=a+b*256:=by have:=or_nat a.toNat b.toNat (by omega) (by omega);rw[rp c,rp e]at this;exact this
def midB (bs:List Int):List Int:=(bs.drop 9).take 16
def ptsN (bs:List Int):List Int:=(kR (midB bs)).1
def NA (bs:List Int):Prop:=bs.length=32/\eI (midB bs)/\tm (bs.getD 0 0) (bs.getD 1 0+bs.getD 2 0*256) (bs.getD 3 0) (bs.getD 4 0) (bs.getD 5 0+bs.getD 6 0*256) (bs.getD 7 0) (bs.getD 8 0) (ptsN bs)=0 /\
 tc (bs.getD 0 0) (bs.getD 1 0+bs.getD 2 0*256) (bs.getD 3 0) (bs.getD 4 0) (bs.getD 5 0+bs.getD 6 0*256) (bs.getD 7 0) (bs.getD 8 0) (ptsN bs)=bs
def Cl (B:Nat) (w:World) (v:Value) (P:List Int):Prop:=tP w v P/\∀b,v.ownBlock=some b->B<=b
def ly (bs:List Int) (w:World) (e:Ending) (w':World):Prop:=
 (NA bs/\∃v,e=.returned (.tuple #[.agg #[(bs.getD 0 0:Int),(bs.getD 1 0+bs.getD 2 0*256:Int),(bs.getD 3 0:Int),(bs.getD 4 0:Int),(bs.getD 5 0+bs.getD 6 0*256:Int),(bs.getD 7 0:Int),(bs.getD 8 0:Int),v],()])/\Cl w w' v (ptsN bs)/\Below w w w') \/
 (¬NA bs/\e=.returned (.tuple #[.agg #[(),(),(),(),(),(),(),.slice none 0 0],(3:Int)])/\Below w w w')
theorem iu (v) (bs) (w) (h:uM w v bs) (r:bs.length≠32) (s:bs.length<=1000000):
 Calls prog 103 #[v] w (ly bs w):=by
 have _:=s;obtain⟨N,a⟩:=zA bs.length;obtain⟨q,d,j⟩:∃p d,v=.slice p N d:=by
  rw[a.o];obtain⟨_,⟨l,f,i,rfl⟩|⟨g,o,b,rfl,n⟩⟩:=h
  .exact⟨f,i,by rw[l]⟩
  .exact⟨_,b,rfl⟩
 subst j;rw[<-a.o]at r s;have k:((N:Int)==32)=false:=by rw[yU];omega
 have m:((N:Int) != 32)=true:=by simpa using (by omega:¬(N:Int)=32)
 have c:=za r;clear h r;go_enter func103,ntmps103;go_wp2;refine yE (v:=.tuple #[.agg #[(),(),(),(),(),(),(),.slice none 0 0],(3:Int)]) (by simp[results,results103,go_sem]) rfl (zw ⟨λe=>c.o (by rw[a.o];exact e.1),rfl,?_⟩);exact zB.alloc zL _
def eqB (a b:List Int):Bool:=decide (a=b)
theorem tF (u v) (a b) (w) (h1:uM w u a) (h2:uM w v b) (aa:a.length=b.length) (hl:a.length<=1000000):
 Calls prog 78 #[u,v] w (κ w (.bool (eqB a b))):=by
 obtain⟨N,t⟩:=zA a.length;have m:Hid (N=b.length):=by rw[t.o];exact aa
 obtain⟨p,B,Q,S⟩:∃p B,u=.slice p N B/\Hid (0<N->∃g o,p=some ⟨g,o,none⟩/\∀(j:Nat) (x:Value),(u8s a)[j]?=some x->w.cell? ⟨g,o+j,none⟩=some x):=by
  rw[t.o];obtain⟨_,⟨C,J,K,rfl⟩|⟨g,o,l,rfl,n⟩⟩:=h1
  .exact⟨J,K,by rw[C],λh=>by omega⟩
  .exact⟨_,l,rfl,λ_=>⟨g,o,rfl,n⟩⟩
 obtain⟨q,cq,R,O⟩:∃p B,v=.slice p N B/\Hid (0<N->∃g o,p=some ⟨g,o,none⟩/\∀(j:Nat) (x:Value),(u8s b)[j]?=some x->w.cell? ⟨g,o+j,none⟩=some x):=by
  rw[m.o];obtain⟨_,⟨C,J,K,rfl⟩|⟨g,o,l,rfl,n⟩⟩:=h2
  .exact⟨J,K,by rw[C],λh=>by omega⟩
  .exact⟨_,l,rfl,λ_=>⟨g,o,rfl,n⟩⟩
 subst Q R;rw[<-t.o]at hl;clear h1 h2 aa;go_enter func78,ntmps78;go_wp2;go_loopw [13] (λi wr=>∃k:Nat,k<=N/\i=.int .i64 k/\Hid (a.take k=b.take k)/\Below w w wr) (λi _=>N-(intOf i).toNat)
 .exact⟨0,yh _,rfl,rfl,zB⟩
 .obtain⟨k,V,rfl,M,A⟩:=hrel;by_cases r:k<N
  .obtain⟨g,o,rfl,n⟩:=S.o (by omega);obtain⟨X,o',rfl,f⟩:=O.o (by omega);have s:k<a.length:=(by rw[<-t.o];exact r);have z:k<b.length:=(by rw[<-m.o];exact r);have F:=Ch a k s;have E:=Ch b k z;obtain⟨x,I⟩:=zA (a[k]);obtain⟨y,H⟩:=zA (b[k]);rw[<-I.out]at F;rw[<-H.out]at E;have d:∀{x} {y},w.cell? x=some y->wr.cell? x=some y:=λh=>(A.cell (zy h)).trans h;have Z:=d (n _ _ F);have W:=d (f _ _ E);have Y:=za n;have P:=za f;clear n f F E d;have L:k<(N:Int):=(by omega);by_cases c:x=y
   .have G:Hid (a.take (k+1)=b.take (k+1)):=(by show _=_;rw[<-zU s,<-zU z,M.o,<-I.out,<-H.out,c]);subst c;go_wp2
    go_quiet (fail)
    go_wp2;go_roundw
    .exact⟨k+1,by omega,by go_num,G,NL A _⟩
    .simp[intOf];omega
   .have D:Hid (eqB a b=false):=(by show _=_;unfold eqB;rw[zz];intro e;apply c;rw[I.out,H.out];subst e;rfl);have U:(x==y)=false:=(by simpa using c);have b2:(x != y)=true:=(by simpa using c);have T:=za c;clear c;go_wp2
    go_quiet (fail)
    go_wp2;go_ret;rw[D.o];exact⟨rfl,NL A _⟩
  .have D:Hid (eqB a b=true):=(by show _=_;unfold eqB;rw[yx];have:=M.o;rw[zo (by rw[<-t.o];omega),zo (by rw[<-m.o];omega)]at this;exact this);go_wp2;go_ret;rw[D.o];exact⟨rfl,A⟩
-- LONG
def Iw (bs:List Int) (y0 ym y3 y4 ys y7 y8:Int) (w:World) (e:Ending) (w':World):Prop:=
 (NA bs/\∃v,e=.returned (.tuple #[.agg #[y0,ym,y3,y4,ys,y7,y8,v],()])/\Cl w w' v (ptsN bs)/\Below w w w')\/(¬NA bs/\e=.returned (.tuple #[.agg #[(),(),(),(),(),(),(),.slice none 0 0],(3:Int)])/\Below w w w')
theorem Y2: (prog.info? 102).map (·.size)=some 8:=by kernel_rfl
theorem Rn (a b c d e f g) (v) (i:v.oneCell'=true):(#[Value.int .i64 a,.int .i64 b,.int .i64 c,.int .i64 d,.int .i64 e,.int .i64 f,.int .i64 g,v]).all (·.oneCell')=true:=by rw[xJ];intro x h;simp only[List.mem_toArray,yZ,oK,MN]at h;rcases h with rfl|rfl|rfl|rfl|rfl|rfl|rfl|rfl<;>first|rfl|exact i
theorem UI (h:tP w v P) {g i:Nat} (s:∀n,w.cell? (g,i)≠some (.int .i64 n)) (x):tP (w.setCell (g,i) x) v P:=by
 obtain⟨o,l⟩:=h;refine⟨o,l.imp id ?_⟩;rintro ⟨p,c,d,m,q⟩;refine⟨p,c,d,m,λj y a=>?_⟩;have f:=q j y a;have b:∃n,y=.int .i64 n:=by have:=(zG.1 a).1;simp only[ints,yD]at this;rw[pQ P j this]at a;exact⟨_,by injection a with a;exact a.symm⟩
 obtain⟨n,rfl⟩:=b;rw[vU _ _ _ _ (by intro e;injection e with k r;subst k r;exact s n f)];exact f
theorem Vu (h:tP w v P) {g:Nat} (l:∀b,v.ownBlock=some b->b≠g) (cs):tP (w.setRow g cs) v P:=by obtain⟨i,e⟩:=h;refine⟨i,e.imp id ?_⟩;rintro ⟨d,a,c,rfl,k⟩;exact⟨d,a,c,rfl,λj y f=>(vM (yO w g d cs (l d rfl))).trans (k j y f)⟩
theorem mE (k m u g s l up) (v) (P) (w) (h:tP w v P) (d:tm k m u g s l up P=0):
 Calls prog 89 #[.agg #[(k:Int),(m:Int),(u:Int),(g:Int),(s:Int),(l:Int),(up:Int),v]] w (S7 k m u g s l up P w):=by
 by_cases a:k=0
 .subst a;unfold tm at d;rw[ze rfl]at d;by_cases b:m=0/\u=0/\g=0/\s=0/\l=0/\up=0/\P.length=0
  .obtain⟨rfl,rfl,rfl,rfl,rfl,rfl,c⟩:=b;obtain rfl:P=[]:=yz.1 c;exact jH v w h
  .rw[zb b]at d;cases d
 .exact jG k m u g s l up v P w h d a
theorem sr (b:tm k m u g s l up P=0):(tc k m u g s l up P).length=32:=by
 unfold tc;by_cases a:k=0
 .rw[ze a,xt]
 .rw[zb a,zl,zl,RC (Pf b a).2.2.2.2.2.2.2.1,xt];rfl
theorem X1 {g n cap:Nat} {D:List Int} {t:TypeId} (b:D.length=n) (h:w.heap[g]?=some (.cells (byts D) t)):uM w (g,0,n,cap) D:=by refine⟨by rw[wd,vB],zw ⟨g,0,cap,by rw[b],λj x a=>?_⟩⟩;rw[yF,zC h];simpa[byts,u8s]using a
theorem Uc (bs) (gb ob cap) (y0 y1 y2 y3 y4 y5 y6 y7 y8 ym ys) (w) (ax:32<=cap) (af:uM w (.slice (some ⟨gb,ob,none⟩) 32 cap) bs) (ad:∀c,uM w (.slice (some ⟨gb,ob+9,none⟩) 16 c) (midB bs)) (hn:bs.length=32) (hx:∀x,x∈bs->0<=x/\x<=255)
 (Hm:Hid (ym=y1+y2*256)) (Hs:Hid (ys=y5+y6*256)) (hG:Hid (NA bs↔eI (midB bs)/\tm y0 ym y3 y4 ys y7 y8 (ptsN bs)=0/\tc y0 ym y3 y4 ys y7 y8 (ptsN bs)=bs))
 (c0:w.cell? ⟨gb,ob,none⟩=some (.int .u8 y0)) (c1:w.cell? ⟨gb,ob+1,none⟩=some (.int .u8 y1)) (c2:w.cell? ⟨gb,ob+2,none⟩=some (.int .u8 y2)) (c3:w.cell? ⟨gb,ob+3,none⟩=some (.int .u8 y3)) (c4:w.cell? ⟨gb,ob+4,none⟩=some (.int .u8 y4)) (c5:w.cell? ⟨gb,ob+5,none⟩=some (.int .u8 y5)) (c6:w.cell? ⟨gb,ob+6,none⟩=some (.int .u8 y6)) (c7:w.cell? ⟨gb,ob+7,none⟩=some (.int .u8 y7)) (c8:w.cell? ⟨gb,ob+8,none⟩=some (.int .u8 y8))
 (b0:0<=y0) (d0:y0<=255) (b1:0<=y1) (d1:y1<=255) (b2:0<=y2) (d2:y2<=255) (b3:0<=y3) (d3:y3<=255) (b4:0<=y4) (d4:y4<=255) (b5:0<=y5) (d5:y5<=255) (b6:0<=y6) (d6:y6<=255) (b7:0<=y7) (d7:y7<=255) (b8:0<=y8) (d8:y8<=255):
 Calls prog 103 #[.slice (some ⟨gb,ob,none⟩) 32 cap] w (Iw bs y0 ym y3 y4 ys y7 y8 w):=by
 have aX:gb<w.heap.size:=zy c0;have aV:¬gb=w.heap.size:=by omega
 have am:=za af;have Y:=za ad;have HN:=za hn;have HX:=za hx;clear af ad hn hx;go_enter func103,ntmps103
 go_upto_region 3 with fail
 go_cut [4] (λs4 wx=>∃l,s4=.pointer (some ⟨l,0,none⟩)/\w.heap.size<l/\Hid (wx.heap[l]?=some (.cells #[y0,ym,y3,y4,ys,y7,y8,(.slice none 0 0)] 102))/\Hid (wx.heap[w.heap.size]?=some (.cells #[(),(),(),(),(),(),(),.slice none 0 0] 102))/\Below w w wx)
 case first=>
  have aG:IntKind.i64.wrap y0=y0:=zM _ (by omega);have ay:IntKind.i64.wrap y1=y1:=zM _ (by omega);have au:IntKind.i64.wrap y2=y2:=zM _ (by omega);have aB:IntKind.i64.wrap y3=y3:=zM _ (by omega);have ar:IntKind.i64.wrap y4=y4:=zM _ (by omega);have a8:IntKind.i64.wrap y5=y5:=zM _ (by omega);have aq:IntKind.i64.wrap y6=y6:=zM _ (by omega);have aM:IntKind.i64.wrap y7=y7:=zM _ (by omega);have aA:IntKind.i64.wrap y8=y8:=zM _ (by omega);have ah:=zW (y2*256) (by omega);have ae:=zW (y6*256) (by omega);have aE:bits .or .i64 y1 (y2*256)=ym:=by rw[E0 _ _ b1 d1 b2 d2,Hm.o]
  have a9:bits .or .i64 y5 (y6*256)=ys:=by rw[E0 _ _ b5 d5 b6 d6,Hs.o]
  go_region_held3 (λF=>F.cell? (gb,ob)=some (.int .u8 y0)/\F.cell? (gb,ob+1)=some (.int .u8 y1)/\F.cell? (gb,ob+2)=some (.int .u8 y2)/\F.cell? (gb,ob+3)=some (.int .u8 y3)/\F.cell? (gb,ob+4)=some (.int .u8 y4)/\F.cell? (gb,ob+5)=some (.int .u8 y5)/\F.cell? (gb,ob+6)=some (.int .u8 y6)/\F.cell? (gb,ob+7)=some (.int .u8 y7)/\F.cell? (gb,ob+8)=some (.int .u8 y8)) (go_keep) (fail)
  all_goals
   clear aG ay au aB ar a8 aq aM aA ah ae aE a9;go_wp2_with fail
   go_meet
   case rel =>have e:(w.alloc (.cells #[(),(),(),(),(),(),(),.slice none 0 0] 102)).heap.size=w.heap.size+1:=(by simp);refine⟨w.heap.size+1,rfl,by omega,?_,un (zO w _) _,((zB.alloc zL _).alloc (by simp) _).drew⟩;have:=zO (w.alloc (.cells #[(),(),(),(),(),(),(),.slice none 0 0] 102)) (.cells #[y0,ym,y3,y4,ys,y7,y8,(.slice none 0 0)] 102);rw[e]at this;exact this
 case rest=>
  obtain⟨l,rfl,bg,H4,HR,hB⟩:=hcut;clear c0 c1 c2 c3 c4 c5 c6 c7 c8;have aJ:Hid (∀c,uM wc (.slice (some (gb,ob+9)) 16 c) (midB bs)):=λc=>uq.below (Y.o c) hB;have a7:Hid (uM wc (.slice (some (gb,ob)) 32 cap) bs):=uq.below am.o hB;have aP:25<=(cap:Int):=by omega
  have av:¬cap=9:=by omega
  have a1:25<=cap:=by omega
  go_wp2_with fail
  refine (YH _ (midB bs) _ (aJ.o _) (by unfold midB;rw[Ni];omega) (λx hx=>HX.o x (vN (xI hx)))).mono ?_;rintro e C (⟨hg,r,rfl,hI,j,aa⟩|⟨hg,rfl,j⟩)
  .have ab:=za hg;have al:Hid (tP C r (ptsN bs)):=hI;have Z:=za (xV j H4.o);have B:=za (xV j HR.o);have aK:Hid (uM C (.slice (some (gb,ob)) 32 cap) bs):=uq.below a7.o j;have E:=zi hB j;obtain⟨i,d,an,az⟩:∃p c,r=.slice p (ptsN bs).length c/\True:=by
    obtain⟨_,⟨h0,a0,c0,rfl⟩|⟨g,o,cap,rfl,hc⟩⟩:=hI
    .exact⟨a0,c0,by rw[show (ptsN bs).length=0 from h0],trivial⟩
    .exact⟨_,cap,rfl,trivial⟩
   obtain⟨f,a6⟩:=zA ((ptsN bs).length);rw[<-a6.o]at an;subst an;have X:Hid (∀b,(Value.slice i f d).ownBlock=some b->w.heap.size<b):=λb W=>(by have:=aa b W;have:=xB H4.o;omega);clear hg hI j az aa;have x7:=(ug Z.o).2.2.2.2.2.2.2;have fz:C.frozen? (l,7)=false:=zF Z.o;have aT:=xB Z.o;have H6:Hid ((C.setCell (l,7) (i,f,d)).heap[l]?=some (.cells #[y0,ym,y3,y4,ys,y7,y8,(i,f,d)] 102)):=zT _ _ 7 _ _ (i,f,d) Z.o;have D:Hid ((C.setCell (l,7) (i,f,d)).heap[w.heap.size]?=some (.cells #[(),(),(),(),(),(),(),.slice none 0 0] 102)):=(yj _ _ _ _ (by show w.heap.size≠l;omega)).trans B.o;have y:Hid (tP (C.setCell (l,7) (i,f,d)) (i,f,d) (ptsN bs)):=UI al.o (λn h=>by rw[x7]at h;injection h with h;cases h) _;have A:Below w w (C.setCell (l,7) (i,f,d)):=E.setCell (by show w.heap.size<=l;omega) _;have L:Hid (uM (C.setCell (l,7) (i,f,d)) (.slice (some (gb,ob)) 32 cap) bs):=uq.below am.o A
   go_upto_region 8 with fail
   generalize C.setCell (l,7) (i,f,d)=w6 at *
   obtain⟨q0,q1,q2,q3,q4,q5,q6,q7⟩:=ug H6.o;clear x7 fz Z B aK al E;obtain⟨c,Hc⟩:=zD (tm y0 ym y3 y4 ys y7 y8 (ptsN bs));have bi:(ptsN bs).length<=8:=(by have:=oZ ab.o.2.1;exact gV this);by_cases m:c=0
   .subst m;go_wp2_with fail
    refine (mE y0 ym y3 y4 ys y7 y8 _ (ptsN bs) _ y.o Hc.o).mono ?_;rintro e U ⟨gp,rfl,bb,aj,a⟩;have H7:=za (xV a H6.o);have u:=za (xV a D.o);have ac:Hid (tP U (i,f,d) (ptsN bs)):=uq.below y.o a;have ai:Hid (uM U (.slice (some (gb,ob)) 32 cap) bs):=uq.below L.o a;have G:=zi A a;have Q:=sr Hc.o;have aC:Hid (uM U (.slice (some ⟨gp,0,none⟩) 32 32) (tc y0 ym y3 y4 ys y7 y8 (ptsN bs))):=X1 Q aj;have ag:=za Q;clear q0 q1 q2 q3 q4 q5 q6 q7 aj a Q H6 D y L A;go_wp2_with fail
    refine (tF _ _ _ bs _ aC.o ai.o (by rw[ag.o,HN.o]) (by rw[ag.o];omega)).mono ?_;obtain⟨q,Hq⟩:=zD (eqB (tc y0 ym y3 y4 ys y7 y8 (ptsN bs)) bs);rw[Hq.o];rintro e V ⟨rfl,t⟩;have H8:=za (xV t H7.o);have H:=za (xV t u.o);have aF:Hid (tP V (i,f,d) (ptsN bs)):=uq.below ac.o t;have ak:=zi G t;clear t H7 u ac ai G;cases q with
    | true=>
     have O:=za (hG.out.2 ⟨ab.o,Hc.o,qQ Hq.o⟩);obtain⟨q0,q1,q2,q3,q4,q5,q6,q7⟩:=ug H8.o;have K:Hid ((V.setRow w #[y0,ym,y3,y4,ys,y7,y8,(i,f,d)]).heap[w.heap.size]?=some (.cells #[y0,ym,y3,y4,ys,y7,y8,(i,f,d)] 102)):=ya _ _ _ _ _ _ H.o;have k:Hid (Below w w (V.setRow w #[y0,ym,y3,y4,ys,y7,y8,(i,f,d)])):=mO ak zL _;have a2:Hid (tP (V.setRow w #[y0,ym,y3,y4,ys,y7,y8,(i,f,d)]) (i,f,d) (ptsN bs)):=Vu aF.o (λb W=>by have:=X.o b W;omega) _;go_wp2_with (refine Nl rfl 102 (.tmp 2) (.tmp 78) rfl w #[y0,ym,y3,y4,ys,y7,y8,(i,f,d)] rfl rfl 102 _ H.o Y2 rfl (Rn _ _ _ _ _ _ _ _ rfl) ?_)
     obtain⟨J,R,S,P,I,N,T,M⟩:=ug K.o;refine yE (v:=.tuple #[.agg #[y0,ym,y3,y4,ys,y7,y8,(i,f,d)],()]) (by simp[results,results103,go_sem,J,R,S,P,I,N,T,M]) rfl (zu ⟨O.o,_,rfl,⟨a2.o,λb W=>pm (X.o b W)⟩,k.o⟩)
    | false=>
     have z:Hid (¬NA bs):=λs=>(by have:=(hG.out.1 s).2.2;exact yi (zX this) (by have:=Hq.o;unfold eqB at this;rw[this];simp));have K:Hid ((V.setRow w #[(),(),(),(),(),(),(),.slice none 0 0]).heap[w.heap.size]?=some (.cells #[(),(),(),(),(),(),(),.slice none 0 0] 102)):=ya _ _ _ _ _ _ H.o;have k:Hid (Below w w (V.setRow w #[(),(),(),(),(),(),(),.slice none 0 0])):=mO ak zL _;go_wp2_with (refine Nl rfl 102 (.tmp 2) (.tmp 77) rfl w #[(),(),(),(),(),(),(),.slice none 0 0] rfl rfl 102 _ H.o Y2 rfl (Rn _ _ _ _ _ _ _ _ rfl) ?_)
     obtain⟨J,R,S,P,I,N,T,M⟩:=ug K.o;refine yE (v:=.tuple #[.agg #[(),(),(),(),(),(),(),.slice none 0 0],(3:Int)]) (by simp[results,results103,go_sem,J,R,S,P,I,N,T,M]) rfl (zw ⟨z.o,rfl,k.o⟩)
   .have z:Hid (¬NA bs):=λs=>m (by rw[<-Hc.o];exact (hG.out.1 s).2.1);have n1:(c==0)=false:=(by simpa using m);have n2:(c != 0)=true:=(by simpa using m);have aW:=za m;clear m;go_wp2_with fail
    refine (M6 y0 ym y3 y4 ys y7 y8 _ (ptsN bs) _ y.o (by omega) c Hc n2).mono ?_;rintro e U ⟨rfl,a⟩;have u:=za (xV a D.o);have G:=zi A a;clear q0 q1 q2 q3 q4 q5 q6 q7 a H6 D y L A;have K:Hid ((U.setRow w #[(),(),(),(),(),(),(),.slice none 0 0]).heap[w.heap.size]?=some (.cells #[(),(),(),(),(),(),(),.slice none 0 0] 102)):=ya _ _ _ _ _ _ u.o;have k:Hid (Below w w (U.setRow w #[(),(),(),(),(),(),(),.slice none 0 0])):=mO G zL _;go_wp2_with (refine Nl rfl 102 (.tmp 2) (.tmp 77) rfl w #[(),(),(),(),(),(),(),.slice none 0 0] rfl rfl 102 _ u.o Y2 rfl (Rn _ _ _ _ _ _ _ _ rfl) ?_)
    obtain⟨J,R,S,P,I,N,T,M⟩:=ug K.o;refine yE (v:=.tuple #[.agg #[(),(),(),(),(),(),(),.slice none 0 0],(3:Int)]) (by simp[results,results103,go_sem,J,R,S,P,I,N,T,M]) rfl (zw ⟨z.o,rfl,k.o⟩)
  .have z:Hid (¬NA bs):=λs=>hg s.2.1;have B:=za (xV j HR.o);have E:=zi hB j;clear hg j;have K:Hid ((C.setRow w #[(),(),(),(),(),(),(),.slice none 0 0]).heap[w.heap.size]?=some (.cells #[(),(),(),(),(),(),(),.slice none 0 0] 102)):=ya _ _ _ _ _ _ B.o;have k:Hid (Below w w (C.setRow w #[(),(),(),(),(),(),(),.slice none 0 0])):=mO E zL _;go_wp2_with (refine Nl rfl 102 (.tmp 2) (.tmp 61) rfl w #[(),(),(),(),(),(),(),.slice none 0 0] rfl rfl 102 _ B.o Y2 rfl (Rn _ _ _ _ _ _ _ _ rfl) ?_)
   obtain⟨J,R,S,P,I,N,T,M⟩:=ug K.o;refine yE (v:=.tuple #[.agg #[(),(),(),(),(),(),(),.slice none 0 0],(3:Int)]) (by simp[results,results103,go_sem,J,R,S,P,I,N,T,M]) rfl (zw ⟨z.o,rfl,k.o⟩)
theorem Wm (p:tm k m u g s l up P=0):∀x,x∈tc k m u g s l up P->0<=x/\x<=255:=by
 intro x a;unfold tc at a;by_cases b:k=0
 .rw[ze b]at a;have:=wO a;omega
 .obtain⟨h,j,n,o,e,i,d,c,f⟩:=Pf p b;rw[zb b]at a;rcases yN.1 a with a|a
  .rcases yN.1 a with a|a
   .simp only[yZ,oK,MN]at a;omega
   .exact Qo c x a
  .have:=wO a;omega
theorem W6 (v) (bs) (w) (h:uM w v bs) (C:bs.length<=1000000) (B:∀x,x∈bs->0<=x/\x<=255) (A:∃p c,v=.slice p bs.length c/\bs.length<=c):
 Calls prog 103 #[v] w (ly bs w):=by
 by_cases i:bs.length=32
 .have r:=h;obtain⟨_,⟨z,_⟩|⟨l,m,o,rfl,s⟩⟩:=h
  .omega
  obtain⟨p,c,u,f⟩:=A;injection u with _ _ q;subst q;rw[i]at f;have a:∀j,j<32->w.cell? ⟨l,m+j,none⟩=some (.int .u8 (bs.getD j 0)):=λj n=>by have:=s j _ (Ch bs j (by omega));rw[this,zt,zk (by omega)];rfl
  have b:∀j,j<32->0<=bs.getD j 0/\bs.getD j 0<=255:=λj n=>by rw[zt,zk (by omega)];exact B _ (Nj _)
  have k:∀c,uM w (.slice (some (l,m+9)) 16 c) (midB bs):=λc=>by have g:(midB bs).length=16:=(by unfold midB;rw[Ni,Nk];omega);refine⟨by rw[wd,vB],zw ⟨l,m+9,c,by rw[g],λj x d=>?_⟩⟩;have n:=(zG.1 d).1;rw[wd,g]at n;rw[yp];refine s (9+j) x ?_;unfold midB at d;rw[ZP,no,zI,ze n,yy]at d;exact d
  rw[i]at r |-;refine (Uc bs l m o _ _ _ _ _ _ _ _ _ (bs.getD 1 0+bs.getD 2 0*256) (bs.getD 5 0+bs.getD 6 0*256) w f r k i B rfl rfl ⟨λh=>⟨h.2.1,h.2.2.1,h.2.2.2⟩,λh=>⟨i,h.1,h.2.1,h.2.2⟩⟩ (a 0 (by omega)) (a 1 (by omega)) (a 2 (by omega)) (a 3 (by omega)) (a 4 (by omega)) (a 5 (by omega)) (a 6 (by omega)) (a 7 (by omega)) (a 8 (by omega))
   (b 0 (by omega)).1 (b 0 (by omega)).2 (b 1 (by omega)).1 (b 1 (by omega)).2 (b 2 (by omega)).1 (b 2 (by omega)).2 (b 3 (by omega)).1 (b 3 (by omega)).2 (b 4 (by omega)).1 (b 4 (by omega)).2 (b 5 (by omega)).1 (b 5 (by omega)).2 (b 6 (by omega)).1 (b 6 (by omega)).2 (b 7 (by omega)).1 (b 7 (by omega)).2 (b 8 (by omega)).1 (b 8 (by omega)).2).mono λe y t=>?_
  exact t
 .exact iu v bs w h i C
-- NOTED
theorem Xc (h:tP w v P) (n) (i:n=P.length):∃p c,v=.slice p n c:=by
 subst i;obtain⟨_,⟨e,b,d,rfl⟩|⟨g,o,a,rfl,f⟩⟩:=h
 .exact⟨b,d,by rw[e]⟩
 .exact⟨_,a,rfl⟩
section
variable {w : World} {gd gs gn : Nat} {wt : Value} {E : List (Nat×Value)} {st : Dk} {L k : Nat} {F : Nat->Prop}
theorem Lies.setS (h:Lies w gd gs gn wt E st L k F) (S') (s:S'.length=L):Lies (w.setRow gs (u8s S').toArray) gd gs gn wt E {st with S:=S'} L k F:=by
 obtain⟨o,r,q,j,p⟩:=h.ne_d;have a:∀i,i≠gs->(w.setRow gs (u8s S').toArray).heap[i]?=w.heap[i]? :=λi d=>yO w gs i _ d;exact {h with
  hd:=(a _ o).trans h.hd
  hs:=ya w gs _ _ _ _ h.hs
  hn:=(a _ (yA h.ne)).trans h.hn
  ls:=s
  own:=tI h.own λb g=>a b (λe=>j (by rw[g,e]))
  ent:=λi n v d=>by obtain⟨l,D,f,m⟩:=h.ent i n v d;exact⟨l,D,f,m.keep (λi c _ hs _ _=>a i hs) λ_ d=>d⟩
  fin:=λi d=>by simpa using h.fin i d}
theorem Lies.setN (h:Lies w gd gs gn wt E st L k F) (N') (s:N'.length=L):Lies (w.setRow gn (u8s N').toArray) gd gs gn wt E {st with N:=N'} L k F:=by
 obtain⟨r,o,p,q,f⟩:=h.ne_d;have a:∀i,i≠gn->(w.setRow gn (u8s N').toArray).heap[i]?=w.heap[i]? :=λi d=>yO w gn i _ d;exact {h with
  hd:=(a _ o).trans h.hd
  hn:=ya w gn _ _ _ _ h.hn
  hs:=(a _ h.ne).trans h.hs
  ln:=s
  own:=tI h.own λb j=>a b (λe=>f (by rw[j,e]))
  ent:=λi n v d=>by obtain⟨l,D,g,m⟩:=h.ent i n v d;exact⟨l,D,g,m.keep (λi c _ _ hn _=>a i hn) λ_ d=>d⟩
  fin:=λi d=>by simpa using h.fin i d}
theorem Lies.clearW (h:Lies w gd gs gn wt E st L k F):Lies (w.setCell (gd,2) (.slice none 0 0)) gd gs gn (.slice none 0 0) [] {st with W:=[]} L k F:=by
 obtain⟨e,d,j,l,g⟩:=h.ne_d;have a:∀i,i≠gd->(w.setCell (gd,2) (.slice none 0 0)).heap[i]?=w.heap[i]? :=λi c=>yj w _ _ i c;exact {h with
  hd:=by have:=NT (i:=2) h.hd (.slice none 0 0);simpa using this
  hs:=(a _ (yA e)).trans h.hs
  hn:=(a _ (yA d)).trans h.hn
  own:=yL _ _ _ _
  fw:=λb f=>by simp[Value.ownBlock]at f
  len:=rfl
  small:=by simp
  ent:=λi n v c=>by simp at c
  fin:=λi c=>by simpa[World.setCell]using h.fin i c}
theorem Wn {a b:List Int} (h:a.length=b.length):over a 0 b=b:=by unfold over;rw[xH,yJ,yF,yG (by omega),yY]
theorem Lies.bytesS (h:Lies w gd gs gn wt E st L k F):uM w (gs,0,L,L) st.S:=rH h.ls h.hs (by rw[zo (by have:=h.ls;simp[wd];omega)])
theorem Lies.bytesN (h:Lies w gd gs gn wt E st L k F):uM w (gn,0,L,L) st.N:=rH h.ln h.hn (by rw[zo (by have:=h.ln;simp[wd];omega)])
theorem Lies.drew (h:Lies w gd gs gn wt E st L k F):Lies w.drew gd gs gn wt E st L k F:=h.keep (λ_ _=>rfl) zL
def RH (st:Dk):Dk:=if st.fu=0 then st else {S:=st.N,N:=st.N,W:=[],fu:=decF st.fu}
theorem XF (h:Lies w gd gs gn wt E st L k F):Calls prog 90 #[(gd,())] w <|ρ (.tuple #[]) λw'=>Did (gd,()) (RH st) k F w w':=by
 have H:=za h;by_cases g:st.fu=0
 .clear h;have b:=za g;clear g;go_enter func90,ntmps90;go_wp2_with fail
  refine (MS H.o b.o).mono ?_;rintro e w' ⟨rfl,rfl⟩;go_wp2
  go_end0
  refine⟨rfl,F,⟨gd,gs,gn,wt,E,L,rfl,?_⟩,λ_ j=>zu j,yK.refl _ _⟩;unfold RH;rw[ze b.o];exact H.o
 .clear h;have b:=za g;clear g;go_enter func90,ntmps90;go_wp2_with fail
  refine (pB H.o b.o).mono ?_;rintro e n ⟨rfl,a,i⟩;have c:=za a;have q:=a.c0;have r:=a.c1;have d:Hid (st.S.length=L/\st.N.length=L/\L=64*k/\16<=k):=⟨a.ls,a.ln,a.hL,a.k0⟩;clear a;go_wp2
  go_still_tail 8,(by kernel_rfl)
  go_wp2_with fail
  rw[Md _ 38 38 _ 5 u8sT ky gs 0 L L _ st.S st.N 5 c.o.drew.hs c.o.drew.bytesN (by have:=d.o;omega) (by have:=d.o;omega) (by have:=d.o;omega)];have e:over st.S 0 st.N=st.N:=Wn (by have:=d.o;omega);rw[e];have f:=c.o.drew.setS st.N d.o.2.1;have m:=za f;have p:=f.z 2;have s:=f.c2;clear f e;go_wp2
  go_end0
  have l:=m.o.clearW;refine⟨rfl,F,⟨gd,gs,gn,.slice none 0 0,[],L,rfl,?_⟩,λ_ j=>zu j,?_⟩
  .unfold RH;rw[zb b.o];exact l
  .exact (i.drew.step (yK.setRow c.o.fs _)).step (yK.setCell c.o.fd _)
def qD (k:Nat):Dk:={S:=List.replicate (64*k) 0,N:=List.replicate (64*k) 0,W:=[],fu:= -1}
def NewRes (k:Nat) (w:World) (e:Ending) (w':World):Prop:=
 ∃d F,e=.returned (.tuple #[d,()])/\uT w' d (qD k) k F/\(∀i,F i->w.heap.size<=i)/\Below w w w'/\d≠.pointer none
theorem mx (w:World) (o):(w.alloc o).heap.size=w.heap.size+1:=by simp
theorem GZ (w:World) (gs gn) (l:gs=w.heap.size/\gn=w.heap.size+1\/gs=w.heap.size+1/\gn=w.heap.size) (L k) (Z) (m:L=64*k) (o:Z=List.replicate L 0) (p:16<=k) (q:k<=256):
 uT (((w.alloc (.cells (u8s Z).toArray 5)).alloc (.cells (u8s Z).toArray 5)).alloc (.cells #[.slice (some ⟨gs,0,none⟩) L L,.slice (some ⟨gn,0,none⟩) L L,.slice none 0 0,(-1:Int)] 136)).drew
  (.pointer (some ⟨w.heap.size+1+1,0,none⟩)) (qD k) k (λi=>w.heap.size<=i/\i<w.heap.size+3):=by
 have d:(((w.alloc (.cells (u8s Z).toArray 5)).alloc (.cells (u8s Z).toArray 5)).alloc (.cells #[(gs,0,L,L),(gn,0,L,L),.slice none 0 0,(-1:Int)] 136)).drew.heap[w.heap.size]?=some (.cells (u8s Z).toArray 5 (0,0)):=
  un (un (zO w _) _) _
 have c:(((w.alloc (.cells (u8s Z).toArray 5)).alloc (.cells (u8s Z).toArray 5)).alloc (.cells #[(gs,0,L,L),(gn,0,L,L),.slice none 0 0,(-1:Int)] 136)).drew.heap[w.heap.size+1]?=some (.cells (u8s Z).toArray 5 (0,0)):=by have:=zO (w.alloc (.cells (u8s Z).toArray 5)) (.cells (u8s Z).toArray 5);simp only[mx]at this;exact un this _
 have g:(((w.alloc (.cells (u8s Z).toArray 5)).alloc (.cells (u8s Z).toArray 5)).alloc (.cells #[(gs,0,L,L),(gn,0,L,L),.slice none 0 0,(-1:Int)] 136)).drew.heap[w.heap.size+1+1]?=some (.cells #[(gs,0,L,L),(gn,0,L,L),.slice none 0 0,(-1:Int)] 136):=by have:=zO ((w.alloc (.cells (u8s Z).toArray 5)).alloc (.cells (u8s Z).toArray 5)) (.cells #[(gs,0,L,L),(gn,0,L,L),.slice none 0 0,(-1:Int)] 136);simp only[mx]at this;exact this
 have j:((((w.alloc (.cells (u8s Z).toArray 5)).alloc (.cells (u8s Z).toArray 5)).alloc (.cells #[(gs,0,L,L),(gn,0,L,L),.slice none 0 0,(-1:Int)] 136)).drew).heap.size=w.heap.size+3:=by simp
 have a:Z=List.replicate (64*k) 0:=by rw[o,m]
 refine⟨_,gs,gn,_,[],L,rfl,⟨by omega,by omega,by omega,by omega,g,?_,?_,by simp[qD];omega,by simp[qD];omega,m,p,q,yL _ _ _ _,λb h=>by simp[Value.ownBlock]at h,rfl,by simp,λi n v f=>by simp at f,λi f=>by rw[j];omega,by simp[qD],by simp[qD]⟩⟩
 .have e:(qD k).S=Z:=a.symm;rw[e];rcases l with⟨rfl,_⟩|⟨rfl,_⟩
  .exact d
  .exact c
 .have e:(qD k).N=Z:=a.symm;rw[e];rcases l with⟨_,rfl⟩|⟨_,rfl⟩
  .exact c
  .exact d
theorem JG (k:Nat) (x:Int) (g:x=k) (h:16<=k) (j:k<=256) (w:World):Calls prog 35 #[x] w (NewRes k w):=by
 obtain⟨L,a⟩:=zA (64*k);obtain⟨Z,b⟩:=zA (List.replicate L (0:Int));have e:∀W,(Instr.makeSlice 38 (.int .i64 (x*64)) (.int .i64 (x*64))).run prog W=.ok (.slice (some ⟨W.heap.size,0,none⟩) L L) (W.alloc (.cells (u8s Z).toArray 5)):=λW=>by rw[b.o];exact Mj L (x*64) (by rw[a.o];omega) (by rw[a.o];omega) W
 have c:16<=x:=by omega
 have f:x<=256:=by omega
 clear g;go_enter func35,ntmps35;go_wp2
 go_region
 all_goals
  go_wp2;go_ret2;refine⟨_,_,rfl,GZ w _ _ (by omega) L k Z a.o b.o h j,λi d=>d.1,?_,by simp⟩;exact (((zB.alloc zL _).alloc (by simp) _).alloc (by simp;omega) _).drew
end
theorem Eb: (prog.info? 138).map (λi=>(i.zero,i.size,i.bytes))=some (some (.agg #[(),.slice none 0 0]),2,32):=by kernel_rfl
theorem Cw: prog.underlying 134=some (.slice 138):=by kernel_rfl
def pV (st:Dk) (n:Nat) (D:List Int):Dk:=if st.fu=0 then st else {S:=st.S,N:=putS st.N n D,W:=st.W++[(n,D)],fu:=decF st.fu}
def New64 (D:List Int) (w:World) (v:Value) (w':World):Prop:=
 ∃g cap cur,v=.slice (some ⟨g,0,none⟩) 64 cap/\w.heap.size<=g/\w'.heap[g]?=some (.cells cur 5)/\cur.toList.take 64=u8s D/\Below w w w'
theorem Yf (v) (D) (w) (h:uM w v D) (l:D.length=64):Calls prog 104 #[v] w λe w'=>∃v',e=.returned v'/\New64 D w v' w':=
 (ZH v D w h (by omega) (by omega)).mono λe w' ⟨v',c,g,b,a,d,j,f,k,i⟩=>⟨v',c,g,b,a,by rw[d,l],j.1,f,by rw[<-l];exact k,i⟩
theorem OH (w:World) (o) (p) (h:p.block<w.heap.size):(w.alloc o).frozen? p=w.frozen? p:=World.frozen?_of_block (wN w o p.block h)
section
variable {w w' : World} {gd gs gn : Nat} {wt : Value} {E : List (Nat×Value)} {st : Dk} {L k : Nat} {F : Nat->Prop}
theorem Lies.wrote (h:Lies w gd gs gn wt E st L k F) (n) (hn:n<k) (D) (K:D.length=64) (hs:E.length<1000000) (wt') (g' cap) (cur) (O:w.heap.size<=w'.heap.size)
 (M:∀i,i<w.heap.size->i≠gd->i≠gn->wt.ownBlock≠some i->w'.heap[i]?=w.heap[i]?)
 (H:w'.heap[gd]?=some (.cells #[(gs,0,L,L),(gn,0,L,L),wt',st.fu] 136))
 (I:w'.heap[gn]?=some (.cells (u8s (putS st.N n D)).toArray 5 (0,0)))
 (B:w'.ownsRow 0 138 2 wt' (E.length+1) (P2 E++[.int .i64 n,.slice (some ⟨g',0,none⟩) 64 cap]))
 (P:wt'.ownBlock=wt.ownBlock\/∀g,wt'.ownBlock=some g->w.heap.size<=g)
 (J:w.heap.size<=g') (C:w'.heap[g']?=some (.cells cur 5)) (G:cur.toList.take 64=u8s D):
 Lies w' gd gs gn wt' (E++[(n,.slice (some ⟨g',0,none⟩) 64 cap)]) {st with N:=putS st.N n D,W:=st.W++[(n,D)]} L k (λi=>F i\/(w.heap.size<=i/\i<w'.heap.size)):=by
 obtain⟨x,A,z,s,y⟩:=h.ne_d;have r:=h.fin _ h.fs;have ln:=h.fin _ h.fn;have l:=xB C;have o:st.N.length=64*k:=by rw[h.ln,h.hL]
 exact {h with
  fd:=zu h.fd
  fs:=zu h.fs
  fn:=zu h.fn
  hd:=H
  hs:=(M _ r (yA x) h.ne s).trans h.hs
  hn:=I
  ln:=by rw[ZF o hn K,h.hL]
  own:=by rw[SY,zl];exact B
  fw:=λb d=>by
   rcases P with e|e
   .exact zu (h.fw b (by rw[<-e];exact d))
   .have:=(B.lt b d).2;exact zw ⟨e b d,this⟩
  len:=by rw[zl,zl,h.len];rfl
  small:=by rw[zl];simp only[yv,xC];omega
  ent:=λi m v a=>by
   by_cases f:i<E.length
   .rw[zV f]at a;obtain⟨t,q,p,u⟩:=h.ent i m v a;refine⟨t,q,?_,u.keep (λi c a hs hn G=>M i (h.fin i a) (ve G h.hd (by decide)) hn ?_) λi a=>zu a⟩
    .rw[zV (by rw[<-h.len];exact f)];exact p
    .exact rC h.own G (by decide)
   .have j:=(zG.1 a).1;rw[zl]at j;simp only[yv,xC]at j;have e:i=E.length:=(by omega);subst e;rw[zx zL,vQ]at a;simp only[zf,zm,Prod.mk.injEq]at a;obtain⟨rfl,rfl⟩:=a;refine⟨hn,D,?_,g',cap,cur,rfl,K,zw ⟨J,l⟩,by omega,by omega,C,G⟩;rw[h.len,zx zL,vQ];rfl
  fin:=λi a=>by
   rcases a with a|a
   .exact zr (h.fin i a) O
   .exact a.2}
theorem Lies.mid {w4:World} (h:Lies w gd gs gn wt E st L k F) (t:Below w w w2) {o:Obj} (v:(w2.alloc o).grownBy w4 wt.ownBlock) (u):
 (∀i,i<w.heap.size->i≠gd->wt.ownBlock≠some i->(w4.setCell (gd,2) u).heap[i]?=w.heap[i]?) /\
 (w4.setCell (gd,2) u).heap[gd]?=some (.cells #[(gs,0,L,L),(gn,0,L,L),u,st.fu] 136) /\
 w.heap.size<=(w4.setCell (gd,2) u).heap.size/\yK F w (w4.setCell (gd,2) u):=by
 obtain⟨n,q,g,s,m⟩:=h.ne_d;have p:(w2.alloc o).heap.size=w2.heap.size+1:=by simp
 have l:=t.size;have j:=v.size;have a:∀i,i<w.heap.size->wt.ownBlock≠some i->w4.heap[i]?=w.heap[i]? :=λi c b=>
  (v.block i (by omega) (yA b)).trans ((wN w2 o i (by omega)).trans (t.block i c))
 have e:=h.fin _ h.fd;refine⟨λi c d b=>(yj w4 _ _ i d).trans (a i c b),?_,by simp[World.setCell];omega,?_⟩
 .have:=NT (i:=2) ((a gd e g).trans h.hd) u;simpa using this
 .refine ((yK.of_below t).step ((yK.alloc o).step (yK.grown v λr f=>h.fw r f))).step (yK.setCell h.fd _)
theorem YF (h:Lies w gd gs gn wt E st L k F) (n:Nat) (hn:n<k) (v:Value) (D:List Int) (hD:D.length=64) (hb:∀w',yK F w w'->uM w' v D) (hs:E.length<1000000):
 Calls prog 86 #[(gd,()),n,v] w <|ρ () λw'=>Did (gd,()) (pV st n D) k F w w':=by
 have H:=za h;have HB:=za hb;obtain⟨p,cp,hu⟩:∃p cp,v=.slice p 64 cp:=by
  have:=hb w (yK.refl _ _);obtain⟨_,⟨h0,_⟩|⟨g,o,a7,rfl,_⟩⟩:=this
  .omega
  .exact⟨_,a7,by rw[hD]⟩
 subst hu;have Q:=za hD;have h4:=h.k1;have hL:64*k<=L:=by have:=h.hL;omega
 have aK:L<=64*k:=by have:=h.hL;omega
 have aD:¬k<=(n:Int):=by omega
 have aV:0<=(n:Int):=by omega
 have aL:n*64<=(L:Int):=by omega
 have aB:¬L=n*64:=by omega
 clear hb hD;by_cases hf:st.fu=0
 .clear h;have Z:=za hf;clear hf;go_enter func86,ntmps86;go_wp2_with fail
  refine (ST H.o).mono ?_;rintro e w' ⟨rfl,rfl⟩;go_wp2_with fail
  refine (MS H.o Z.o).mono ?_;rintro e w' ⟨rfl,rfl⟩;go_wp2;go_ret;refine⟨rfl,F,⟨gd,gs,gn,wt,E,L,rfl,?_⟩,λ_ J=>zu J,yK.refl _ _⟩;unfold pV;rw[ze Z.o];exact H.o
 .clear h;have Z:=za hf;clear hf;obtain⟨i0,aj,Y,al,af⟩:=yX Eb;have HI:=za aj;have a8:=za Y;have a9:=za al;have ax:=za af;clear aj Y al af;go_enter func86,ntmps86;go_wp2_with fail
  refine (ST H.o).mono ?_;rintro e w' ⟨rfl,rfl⟩;go_wp2_with fail
  refine (pB H.o Z.o).mono ?_;rintro e R ⟨rfl,O,K⟩;have s:=za O;have c2:=O.c2;have z2:=O.z 2;have C:=O.fin _ O.fd;have P:=za O.ne_d;clear O;go_wp2
  go_region_law (first
   | (refine Kw ?_ 104 #[.tmp 28] #[38] ?_ (λ_ _=>by kernel_rfl) #[.slice p 64 cp] ?_ (New64 D R.drew) (Yf _ D R.drew (HB.o R.drew K.drew) Q.o) ?_;(rfl);(rfl);(kernel_rfl);rintro v2 w2 ⟨q,d,y,rfl,an,ae,ah,f⟩;have k2:=(f.cell (p:=⟨gd,2,none⟩) C).trans c2;have f2:=(f.frozen (p:=⟨gd,2,none⟩) C).trans z2;have kz:=zr C f.size;have kn:¬gd=w2.heap.size:=pg kz;have aa:=za (tt s.o.drew.own f);have M:=za ae;have av:=za ah;have ab:=za f;clear ae ah f)
   | (
    refine ut _ (by rfl) _ _ _ (by rfl) 0 138 i0 _ 2 32 Cw HI.o a8.o a9.o ax.o rfl (by omega) wt E.length (P2 E) (by rfl) (aa.o.alloc _)
     ⟨w2.heap.size,0,none⟩ 1 1 [.int .i64 (n:Int),.slice (some ⟨q,0,none⟩) 64 d] (by rfl) (by rfl) (xF (cs:=#[.int .i64 (n:Int),.slice (some ⟨q,0,none⟩) 64 d]) (t:=138) (fr:=(0,0)) (zO w2 _)) (by simp[Value.oneCell'])
     (by omega) (by unfold maxLen;omega) (by omega) (by simp) (w2.heap.size+1) (by simp) ?_;intro m a I j c ak aw
    have k4:I.cell? (gd,2)=some wt:=(by rw[c.cell_far _ (by simp;omega) (yA P.out.2.2.1),xR _ _ _ kz];exact k2);have f4:I.frozen? (gd,2)=false:=(by rw[c.frozen_far _ (by simp;omega) (yA P.out.2.2.1),OH _ _ _ kz];exact f2);have ac:=za j;have G:=za c;have X:=za ak;clear j c ak))
  all_goals
   obtain⟨m1,m2,m3,m4⟩:=s.o.drew.mid ab.o G.o (m,0,(E.length+1),a);have M1:=za m1;have M2:=za m2;have M4:=za m4;have A:=X.o;have U:=K.drew.step m4;have ai:=rC aa.o M.o (by decide);have am:q≠gd:=(by have:R.heap.size<=q:=an;omega);have l:(I.setCell (gd,2) (m,0,(E.length+1),a)).heap[q]?=some (.cells y 5):=
    (yj I _ _ q am).trans ((G.o.block q (by have:=xB M.o;simp;omega) (yA ai)).trans (un M.o _))
   have V:(Value.slice (some ⟨m,0,none⟩) (E.length+1) a).ownBlock≠some gd:=by
    rcases A with e|e
    .intro e2;have e3:m=gd:=(by simpa[Value.ownBlock]using e2);exact P.out.2.2.1 (by rw[e,e3])
    .intro e2;have e3:m=gd:=(by simpa[Value.ownBlock]using e2);omega
   have x:(I.setCell (gd,2) (m,0,(E.length+1),a)).ownsRow 0 138 2 (m,0,(E.length+1),a) (E.length+1) (P2 E++[.int .i64 n,.slice (some ⟨q,0,none⟩) 64 d]):=
    tI ac.o λb hb=>yj I _ _ b (λe=>V (by rw[hb,e]))
   have ao:(Value.slice (some ⟨m,0,none⟩) (E.length+1) a).ownBlock=wt.ownBlock\/∀g,(Value.slice (some ⟨m,0,none⟩) (E.length+1) a).ownBlock=some g->R.drew.heap.size<=g:=by
    rcases A with e|e
    .exact zu e.symm
    .refine zw λg hg=>?_;have e3:m=g:=(by simpa[Value.ownBlock]using hg);have:=ab.o.size;omega
   have ay:=s.o.drew.fin _ s.o.fn;have ad:=(m1 gn ay (yA P.out.2.1) P.out.2.2.2.2).trans s.o.drew.hn;generalize a0:I.setCell (gd,2) (m,0,(E.length+1),a)=r at *
   have T:=za U;have ag:=za l;have u:=za x;have a3:=za ao;have B:=za ad;have c1:r.cell? (gd,1)=some (.slice (some ⟨gn,0,none⟩) L L):=zC m2;clear m1 m2 m4 U l x ao ad a0 A k4 f4 ac G X aw ai V;go_wp2_with fail
   rw[Md r 38 38 _ 5 u8sT ky gn (n*64) (L-n*64) (L-n*64) _ st.N D 5 B.o (HB.o r T.o) (by rw[Q.o];omega) (by rw[Q.o];omega) (by rw[Q.o,s.o.ln];omega)];go_wp2;go_ret;have e:over st.N (n*64) D=putS st.N n D:=(by unfold over putS;rw[Q.o,pi n 64]);rw[e];have az:=s.o.drew.wrote (w':=r.setRow gn (u8s (putS st.N n D)).toArray) n hn D Q.o hs _ q d y (by rw[setRow_size];exact m3)
    (λi J hd hn ar=>(yO r gn i _ hn).trans (M1.out i J hd ar)) ((yO r gn gd _ P.out.2.1).trans M2.out) (ya r gn _ _ _ _ B.o)
    (tI u.o λb hb=>yO r gn b _ (λe=>rC u.o B.o (by decide) (by rw[hb,e]))) a3.o an ((yO r gn q _ (by omega)).trans ag.o) av.o
   have hW:pV st n D={S:=st.S,N:=putS st.N n D,W:=st.W++[(n,D)],fu:=decF st.fu}:=(by unfold pV;rw[zb Z.o]);rw[hW];refine⟨rfl,λi=>F i\/(R.drew.heap.size<=i/\i<(r.setRow gn (u8s (putS st.N n D)).toArray).heap.size),⟨gd,gs,gn,_,_,L,rfl,az⟩,?_,T.o.step (yK.setRow s.o.fn _)⟩;rintro i (J|J)
   .exact zu J
   .exact zw (zv K.size J.1)
end
def It (K:List Bool):List Value:=K.map Value.bool
def YE (w:World) (v:Value) (K:List Bool):Prop:=uq w v 1 K.length (It K)
theorem Yn (l) (j) (a:j<l.length):(It l)[j]?=some (.bool l[j]):=by simp[It,a]
def nl (S:List Int):List (Nat×List Int)->List Bool->List Int
 | [],_=>S
 | _::_,[]=>S
 | (n,D)::W,b::K=>nl (if b then putS S n D else S) W K
def jS (st:Dk) (K:List Bool):Dk:={S:=nl st.S st.W K,N:=nl st.S st.W K,W:=[],fu:= -1}
theorem OM (S) (W):nl S W []=S:=by cases W<;>rfl
section
variable {w w' : World} {gd gs gn : Nat} {wt : Value} {E : List (Nat×Value)} {st : Dk} {L k : Nat} {F : Nat->Prop}
theorem Lies.alloc (h:Lies w gd gs gn wt E st L k F) (o):Lies (w.alloc o) gd gs gn wt E st L k F:=
 h.keep (λi a=>wN w o i (h.fin i a)) (by simp)
theorem XM (h:Lies w gd gs gn wt E st L k F) (kv) (K) (hk:∀w',yK F w w'->YE w' kv K) (hK:K.length<=9223372036854775807):
 Calls prog 31 #[(gd,()),kv] w <|ρ (.tuple #[]) λw'=>Did (gd,()) (jS st K) k F w w':=by
 have H:=za h;have HK:=za hk;obtain⟨M,y⟩:=zA K.length;obtain⟨p,cp,hu⟩:∃p cp,kv=.slice p M cp:=by
  obtain⟨_,⟨h0,a0,c0,rfl⟩|⟨g,o,az,rfl,_⟩⟩:=hk w (yK.refl _ _)
  .exact⟨a0,c0,by rw[y.o,h0]⟩
  .exact⟨_,az,by rw[y.o]⟩
 subst hu;rw[<-y.o]at hK;obtain⟨N,HN⟩:=zA E.length;obtain⟨q,cq,A,_⟩:=rU h.own;rw[<-HN.o]at A;subst A;have c2:=h.c2;have hs:=h.small;rw[<-HN.o]at hs;have h4:=h.k1;have hL:64*k<=L:=by have:=h.hL;omega
 have aQ:L<=64*k:=by have:=h.hL;omega
 clear hk h;go_enter func31,ntmps31;go_wp2;go_loopw [11] (λi wr=>∃(j:Nat) (d:List Int),j<=N/\i=.int .i64 j/\Hid (nl d (st.W.drop j) (K.drop j)=nl st.S st.W K)/\Hid (Lies wr gd gs gn (q,N,cq) E {st with S:=d} L k F)/\Hid (yK F w wr)) (λi _=>N-(intOf i).toNat)
 .exact⟨0,st.S,yh _,rfl,rfl,H.o,yK.refl _ _⟩
 .obtain⟨j,d,hj,rfl,HC,a,r⟩:=hrel;by_cases ao:j<N
  .have B:j<E.length:=(by rw[<-HN.o];exact ao);obtain⟨q',aP,Y,c⟩:=rU a.o.own;obtain⟨gw,hq,_,c⟩:=c (by omega);have e0:q=some ⟨gw,0,none⟩:=(by rw[<-hq];injection Y);subst e0;have hp:=Sm E j B;obtain⟨n,hn⟩:=zA (E[j].1);obtain⟨v,A⟩:=zA (E[j].2);rw[<-hn.out,<-A.out]at hp;have d1:=c _ _ hp.1;have d2:=c _ _ hp.2;obtain⟨aw,D,hW,u,t,a7,av,Q,aW,aU,aI,U,V⟩:=a.o.ent j n v (by rw[hn.out,A.out];simp[B]);subst av;have m:=za Q;have ag:=za U;have ap:=za V;have HW:Hid (st.W.drop j=(n,D)::st.W.drop (j+1)):=by
    have O:j<st.W.length:=(zG.1 hW).1;rw[yR O]
    congr 1
    rw[zk O]at hW;injection hW
   have c0:=a.o.c0;have aO:=a.o.fin _ a.o.fd;have aM:¬gd=wr.heap.size:=(by omega);have aJ:gw<wr.heap.size:=zy d1;have aF:¬gw=wr.heap.size:=(by omega);have aR:n*64<=(L:Int):=(by omega);have bb:0<=(n:Int):=(by omega);have a5:¬L=n*64:=(by omega);have aG:j<(N:Int):=(by omega);clear c hp hq Y hn A hW Q U V;by_cases ak:j<M
   .have I:j<K.length:=(by rw[<-y.o];exact ak);obtain⟨_,⟨h0,_⟩|⟨gk,ok,ck,P,J⟩⟩:=HK.o wr r.o
    .omega
    have e1:p=some ⟨gk,ok,none⟩:=(by injection P);subst e1;have k1:=J _ _ (Yn K j I);obtain⟨b,hb⟩:=zA (K[j]);rw[<-hb.out]at k1;have Z:Hid (K.drop j=b::K.drop (j+1)):=(by rw[yR I,hb.out];exact rfl);have aZ:gk<wr.heap.size:=zy k1;have aB:¬gk=wr.heap.size:=(by omega);have T:j<(M:Int):=(by omega);clear J P hb;cases b with
    | true=>
     have f:Hid (nl (putS d n D) (st.W.drop (j+1)) (K.drop (j+1))=nl st.S st.W K):=(by have:=HC.o;rw[HW.o,Z.o]at this;exact this);go_wp2;have x:=a.o.alloc (.cells #[n,.slice (some ⟨u,0,none⟩) 64 t] 138);have C:=r.o.step (yK.alloc (.cells #[n,.slice (some ⟨u,0,none⟩) 64 t] 138));have aa:=un ag.o (.cells #[n,.slice (some ⟨u,0,none⟩) 64 t] 138);have a1:(wr.alloc (.cells #[n,.slice (some ⟨u,0,none⟩) 64 t] 138)).cell? (wr.heap.size,0)=some (.int .i64 n):=zC (zO wr _);have a2:(wr.alloc (.cells #[n,.slice (some ⟨u,0,none⟩) 64 t] 138)).cell? (wr.heap.size,1)=some (.slice (some ⟨u,0,none⟩) 64 t):=zC (zO wr _);generalize wr.alloc (.cells #[n,.slice (some ⟨u,0,none⟩) 64 t] 138)=wq at *
     have X:=za x;have al:=za C;have ah:=za aa;have a0:=x.c0;clear x C aa c0 d1 d2 k1;have am:=zW (n*64) (by omega);have aj:0<=(n:Int)*64:=(by omega);have ar:((n:Int)*64).toNat=n*64:=by omega
     go_still_tail 10,(by kernel_rfl)
     clear am aj ar;go_wp2_with fail
     rw[Md _ 38 38 _ 5 u8sT ky gs (n*64) (L-n*64) (L-n*64) _ d D 5 X.o.drew.hs (rH m.o ah.o ap.o) (by rw[m.o];omega) (by rw[m.o];omega) (by rw[m.o];have:=a.o.ls;simp only at this;rw[this];omega)];have e:over d (n*64) D=putS d n D:=(by unfold over putS;rw[m.o,pi n 64]);rw[e];have R:(putS d n D).length=L:=(by have h1:=a.o.ls;have s:=a.o.hL;simp only at h1;rw[ZF (k:=k) (by rw[h1,s]) aw m.o,s]);clear e;have aq:=za R;clear R;go_wp2;go_roundw
     .exact⟨j+1,putS d n D,by omega,by go_num,f,X.o.drew.setS _ aq.o,al.o.drew.step (yK.setRow a.o.fs _)⟩
     .simp[intOf];omega
    | false=>
     have f:Hid (nl d (st.W.drop (j+1)) (K.drop (j+1))=nl st.S st.W K):=(by have:=HC.o;rw[HW.o,Z.o]at this;exact this);go_wp2;go_roundw
     .exact⟨j+1,d,by omega,by go_num,f,a.o.alloc _,r.o.step (yK.alloc _)⟩
     .simp[intOf];omega
   .have f:Hid (nl d (st.W.drop (j+1)) (K.drop (j+1))=nl st.S st.W K):=(by have:=HC.o;rw[yG (l:=K) (by rw[<-y.o];omega),OM]at this;rw[yG (l:=K) (by rw[<-y.o];omega),OM];exact this);have T:¬j<(M:Int):=(by omega);go_wp2;go_roundw
    .exact⟨j+1,d,by omega,by go_num,f,a.o.alloc _,r.o.step (yK.alloc _)⟩
    .simp[intOf];omega
  .have f:Hid (d=nl st.S st.W K):=(by have:=HC.o;rw[yG (by rw[<-a.o.len,<-HN.o];omega)]at this;exact this);have c0:=a.o.c0;have c1:=a.o.c1;go_wp2
   go_still_tail 8,(by kernel_rfl)
   go_wp2_with fail
   have G:d.length=L:=a.o.ls;have au:st.N.length=L:=a.o.ln;have aK:=a.o.k0;rw[Md _ 38 38 _ 5 u8sT ky gn 0 L L _ st.N d 5 a.o.drew.hn a.o.drew.bytesS (by omega) (by omega) (by omega)];have e:over st.N 0 d=d:=Wn (by omega);rw[e];have s:=a.o.drew.setN d G;have H2:=za s;have z2:=s.z 2;have z3:=s.z 3;have d2:=s.c2;have d3:=s.c3;clear s e G au;go_wp2
   go_end0
   have h3:=H2.o.clearW.setFu (-1) (by omega) (by omega);refine⟨rfl,F,⟨gd,gs,gn,.slice none 0 0,[],L,rfl,?_⟩,λ_ hi=>zu hi,?_⟩
   .unfold jS;rw[<-f.o];exact h3
   .exact ((r.o.drew.step (yK.setRow a.o.fn _)).step (yK.setCell a.o.fd _)).step (yK.setCell a.o.fd _)
end
