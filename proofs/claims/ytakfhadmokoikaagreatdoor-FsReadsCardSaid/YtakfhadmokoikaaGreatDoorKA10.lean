import Derived.Test.YtakfhadmokoikaaGreatDoorKA8
import Derived.Deep.QuietTactic
import Derived.BigQuiet
set_option maxHeartbeats 0
set_option linter.all false
set_option maxRecDepth 100000
namespace Go.Proofs.YtakfhadmokoikaaGreatDoor
open Go.Proofs.Tryz Go.RowKit
variable {w:World}
abbrev xQ:=@Calls.quiet_of_same
theorem lw {B:Nat} {a:World} (h:Below B a w) (n:Nat):Below B a (w.drewN n):=⟨h.os,h.tape,h.output,h.size,h.block⟩
theorem Td: (prog.info? 3).map (fun i=>(i.zero,i.size,i.bytes))=some (some (.int .i64 0),1,8):=by kernel_rfl
theorem intsT: prog.underlying 49=some (.slice 3):=by kernel_rfl
def tX (s:Int):Int:=if s<=0 then 0 else (s-1) / 64+1
theorem WY (s:Int) (w:World) (b: -9223372036854775808<=s) (c:s<=9223372036854775807):
 Calls prog 34 #[s] w fun e w'=>e=.returned (.int .i64 (tX s))/\w=w':=by
 by_cases h:s<=0
 .have a:Hid (tX s=0):=by show _=_;unfold tX;rw[ze h]
  go_enter func34,ntmps34
  go_wp2;go_ret;exact⟨tK a.o.symm,rfl⟩
 .have a:Hid (tX s=(s-1) / 64+1):=by show _=_;unfold tX;rw[zb h]
  go_enter func34,ntmps34
  go_wp2;go_ret;exact⟨tK a.o.symm,rfl⟩
def vL (k m u g s l up:Int) (P:List Int):Int:=
 if k=0 then (if m=0/\u=0/\g=0/\s=0/\l=0/\up=0/\P.length=0 then 0 else 3)
 else if k<0\/3<k\/m<0\/511<m\/u<0\/255<u\/g<0\/255<g\/l<0\/200<l then 1
 else if s<0\/512<s then 2
 else if (k=2/\(up<1\/32<up))\/(k≠2/\up≠0) then 12
 else if tI P≠0 then tI P
 else if (P.length:Int)≠tX s then 3 else 0
theorem OZ (k m u g s l I:Int) (v:Value) (P:List Int) (w:World) (h:vQ w v P) (J:P.length<=1000000) (K:k=0):
 Calls prog 128 #[.agg #[k,m,u,g,s,l,I,v]] w fun e w'=>e=.returned (.int .i64 (vL k m u g s l I P))/\Below w w w':=by
 obtain⟨N,y⟩:=zA P.length;obtain⟨p,B,i⟩:∃p B,v=.slice p N B:=by
  rw[y.o];obtain⟨_,⟨C,D,E,rfl⟩|⟨g,o,z,rfl,q⟩⟩:=h
  .exact⟨D,E,by rw[C]⟩
  .exact⟨_,z,rfl⟩
 subst i;have d:Hid (∀o:Obj,Below w w (w.alloc o)):=fun o=>zB.alloc zL o;have H:Hid (∀o:Obj,vQ (w.alloc o) (p,N,B) P):=fun o=>xT.below h (d.o o);rw[<-y.o]at J;clear h;subst K;by_cases x:m=0
 rotate_left
 .have j:(m==0)=false:=by simpa using x
  have n:(m != 0)=true:=by simpa using x
  have c:=Lib.hid x;clear x;have a:Hid (vL 0 m u g s l I P=3):=by show _=_;unfold vL;rw[ze rfl,zb (fun q=>c.o (by omega))]
  go_enter xr,xa
  go_wp2;go_ret;exact⟨tK a.o.symm,d.o _⟩
 subst x;by_cases i:u=0
 rotate_left
 .have j:(u==0)=false:=by simpa using i
  have n:(u != 0)=true:=by simpa using i
  have c:=Lib.hid i;clear i;have a:Hid (vL 0 0 u g s l I P=3):=by show _=_;unfold vL;rw[ze rfl,zb (fun q=>c.o (by omega))]
  go_enter xr,xa
  go_wp2;go_ret;exact⟨tK a.o.symm,d.o _⟩
 subst i;by_cases r:g=0
 rotate_left
 .have j:(g==0)=false:=by simpa using r
  have n:(g != 0)=true:=by simpa using r
  have c:=Lib.hid r;clear r;have a:Hid (vL 0 0 0 g s l I P=3):=by show _=_;unfold vL;rw[ze rfl,zb (fun q=>c.o (by omega))]
  go_enter xr,xa
  go_wp2;go_ret;exact⟨tK a.o.symm,d.o _⟩
 subst r;by_cases t:s=0
 rotate_left
 .have j:(s==0)=false:=by simpa using t
  have n:(s != 0)=true:=by simpa using t
  have c:=Lib.hid t;clear t;have a:Hid (vL 0 0 0 0 s l I P=3):=by show _=_;unfold vL;rw[ze rfl,zb (fun q=>c.o (by omega))]
  go_enter xr,xa
  go_wp2;go_ret;exact⟨tK a.o.symm,d.o _⟩
 subst t;by_cases J:l=0
 rotate_left
 .have j:(l==0)=false:=by simpa using J
  have n:(l != 0)=true:=by simpa using J
  have c:=Lib.hid J;clear J;have a:Hid (vL 0 0 0 0 0 l I P=3):=by show _=_;unfold vL;rw[ze rfl,zb (fun q=>c.o (by omega))]
  go_enter xr,xa
  go_wp2;go_ret;exact⟨tK a.o.symm,d.o _⟩
 subst J;by_cases b:I=0
 rotate_left
 .have j:(I==0)=false:=by simpa using b
  have n:(I != 0)=true:=by simpa using b
  have c:=Lib.hid b;clear b;have a:Hid (vL 0 0 0 0 0 0 I P=3):=by show _=_;unfold vL;rw[ze rfl,zb (fun q=>c.o (by omega))]
  go_enter xr,xa
  go_wp2;go_ret;exact⟨tK a.o.symm,d.o _⟩
 subst b;by_cases A:N=0
 .have a:Hid (vL 0 0 0 0 0 0 0 P=0):=by show _=_;unfold vL;rw[ze rfl,ze (by rw[<-y.o];omega)]
  subst A;go_enter xr,xa;go_wp2;go_ret;exact⟨tK a.o.symm,d.o _⟩
 .have a:Hid (vL 0 0 0 0 0 0 0 P=3):=by show _=_;unfold vL;rw[ze rfl,zb (by rw[<-y.o];omega)]
  have f:¬(N:Int)=0:=by omega
  have j:((N:Int)==0)=false:=by simpa using f
  have n:((N:Int) != 0)=true:=by simpa using f
  have G:=Lib.hid f;have F:=Lib.hid A;clear A f;go_enter xr,xa;go_wp2;go_ret;exact⟨tK a.o.symm,d.o _⟩
theorem QY (k m u g s l K:Int) (v:Value) (P:List Int) (w:World) (h:vQ w v P) (M:P.length<=1000000) (J:¬k=0) (L:k<0\/3<k\/m<0\/511<m\/u<0\/255<u\/g<0\/255<g\/l<0\/200<l):
 Calls prog 128 #[.agg #[k,m,u,g,s,l,K,v]] w fun e w'=>e=.returned (.int .i64 (vL k m u g s l K P))/\Below w w w':=by
 have _:=M;obtain⟨N,j⟩:=zA P.length;obtain⟨p,f,r⟩:∃p f,v=.slice p N f:=by
  rw[j.o];obtain⟨_,⟨q,t,n,rfl⟩|⟨g,o,d,rfl,L⟩⟩:=h
  .exact⟨t,n,by rw[q]⟩
  .exact⟨_,d,rfl⟩
 subst r;have c:Hid (∀o:Obj,Below w w (w.alloc o)):=fun o=>zB.alloc zL o;have H:Hid (∀o:Obj,vQ (w.alloc o) (p,N,f) P):=fun o=>xT.below h (c.o o);rw[<-j.o]at M;clear h;have i:=Lib.hid L;clear L;have x:(k==0)=false:=by simpa using J
 have F:(k != 0)=true:=by simpa using J
 by_cases n:k<0
 .have b:=Lib.hid J;clear J;have a:Hid (vL k m u g s l K P=1):=by show _=_;unfold vL;rw[zb b.o,ze (by omega)]
  go_enter xr,xa
  go_wp2;go_ret;exact⟨tK a.o.symm,c.o _⟩
 by_cases B:3<k
 .have b:=Lib.hid J;clear J;have a:Hid (vL k m u g s l K P=1):=by show _=_;unfold vL;rw[zb b.o,ze (by omega)]
  go_enter xr,xa
  go_wp2;go_ret;exact⟨tK a.o.symm,c.o _⟩
 by_cases C:m<0
 .have b:=Lib.hid J;clear J;have a:Hid (vL k m u g s l K P=1):=by show _=_;unfold vL;rw[zb b.o,ze (by omega)]
  go_enter xr,xa
  go_wp2;go_ret;exact⟨tK a.o.symm,c.o _⟩
 by_cases D:511<m
 .have b:=Lib.hid J;clear J;have a:Hid (vL k m u g s l K P=1):=by show _=_;unfold vL;rw[zb b.o,ze (by omega)]
  go_enter xr,xa
  go_wp2;go_ret;exact⟨tK a.o.symm,c.o _⟩
 by_cases I:u<0
 .have b:=Lib.hid J;clear J;have a:Hid (vL k m u g s l K P=1):=by show _=_;unfold vL;rw[zb b.o,ze (by omega)]
  go_enter xr,xa
  go_wp2;go_ret;exact⟨tK a.o.symm,c.o _⟩
 by_cases E:255<u
 .have b:=Lib.hid J;clear J;have a:Hid (vL k m u g s l K P=1):=by show _=_;unfold vL;rw[zb b.o,ze (by omega)]
  go_enter xr,xa
  go_wp2;go_ret;exact⟨tK a.o.symm,c.o _⟩
 by_cases G:g<0
 .have b:=Lib.hid J;clear J;have a:Hid (vL k m u g s l K P=1):=by show _=_;unfold vL;rw[zb b.o,ze (by omega)]
  go_enter xr,xa
  go_wp2;go_ret;exact⟨tK a.o.symm,c.o _⟩
 by_cases A:255<g
 .have b:=Lib.hid J;clear J;have a:Hid (vL k m u g s l K P=1):=by show _=_;unfold vL;rw[zb b.o,ze (by omega)]
  go_enter xr,xa
  go_wp2;go_ret;exact⟨tK a.o.symm,c.o _⟩
 by_cases y:l<0
 .have b:=Lib.hid J;clear J;have a:Hid (vL k m u g s l K P=1):=by show _=_;unfold vL;rw[zb b.o,ze (by omega)]
  go_enter xr,xa
  go_wp2;go_ret;exact⟨tK a.o.symm,c.o _⟩
 by_cases z:200<l
 .have b:=Lib.hid J;clear J;have a:Hid (vL k m u g s l K P=1):=by show _=_;unfold vL;rw[zb b.o,ze (by omega)]
  go_enter xr,xa
  go_wp2;go_ret;exact⟨tK a.o.symm,c.o _⟩
 exact yb i.o (by omega)
theorem Mn (k m u g s l A:Int) (v:Value) (P:List Int) (w:World) (h:vQ w v P) (D:P.length<=1000000) (B:¬k=0) (E:¬k<0) (F:¬3<k) (G:¬m<0) (I:¬511<m) (J:¬u<0) (K:¬255<u) (L:¬g<0) (M:¬255<g) (O:¬l<0) (Q:¬200<l) (C:s<0\/512<s):
 Calls prog 128 #[.agg #[k,m,u,g,s,l,A,v]] w fun e w'=>e=.returned (.int .i64 (vL k m u g s l A P))/\Below w w w':=by
 have _:=D;obtain⟨N,i⟩:=zA P.length;obtain⟨p,d,q⟩:∃p d,v=.slice p N d:=by
  rw[i.o];obtain⟨_,⟨n,r,E,rfl⟩|⟨g,o,b,rfl,C⟩⟩:=h
  .exact⟨r,E,by rw[n]⟩
  .exact⟨_,b,rfl⟩
 subst q;have c:Hid (∀o:Obj,Below w w (w.alloc o)):=fun o=>zB.alloc zL o;have H:Hid (∀o:Obj,vQ (w.alloc o) (p,N,d) P):=fun o=>xT.below h (c.o o);rw[<-i.o]at D;clear h;have f:=Lib.hid C;clear C;have t:(k==0)=false:=by simpa using B
 have z:(k != 0)=true:=by simpa using B
 have j:=Lib.hid B;clear B;by_cases y:s<0
 .have a:Hid (vL k m u g s l A P=2):=by show _=_;unfold vL;rw[zb j.o,zb (by omega),ze (by omega)]
  go_enter xr,xa
  go_wp2;go_ret;exact⟨tK a.o.symm,c.o _⟩
 by_cases x:512<s
 .have a:Hid (vL k m u g s l A P=2):=by show _=_;unfold vL;rw[zb j.o,zb (by omega),ze (by omega)]
  go_enter xr,xa
  go_wp2;go_ret;exact⟨tK a.o.symm,c.o _⟩
 exact yb f.o (by omega)
theorem QX (k m u g s l J:Int) (v:Value) (P:List Int) (w:World) (h:vQ w v P) (M:P.length<=1000000) (K:¬k=0) (O:¬k<0) (Q:¬3<k) (R:¬m<0) (S:¬511<m) (T:¬u<0) (U:¬255<u) (V:¬g<0) (W:¬255<g) (X:¬l<0) (Y:¬200<l) (Z:¬s<0) (d1:¬512<s) (L:(k=2/\(J<1\/32<J))\/(k≠2/\J≠0)):
 Calls prog 128 #[.agg #[k,m,u,g,s,l,J,v]] w fun e w'=>e=.returned (.int .i64 (vL k m u g s l J P))/\Below w w w':=by
 have _:=M;obtain⟨N,t⟩:=zA P.length;obtain⟨p,r,z⟩:∃p r,v=.slice p N r:=by
  rw[t.o];obtain⟨_,⟨y,A,O,rfl⟩|⟨g,o,j,rfl,L⟩⟩:=h
  .exact⟨A,O,by rw[y]⟩
  .exact⟨_,j,rfl⟩
 subst z;have i:Hid (∀o:Obj,Below w w (w.alloc o)):=fun o=>zB.alloc zL o;have H:Hid (∀o:Obj,vQ (w.alloc o) (p,N,r) P):=fun o=>xT.below h (i.o o);rw[<-t.o]at M;clear h;have C:(k==0)=false:=by simpa using K
 have G:(k != 0)=true:=by simpa using K
 have n:=Lib.hid K;clear K;have f:=Lib.hid L;clear L;by_cases a:k=2
 .subst a;by_cases D:J<1
  .have c:Hid (vL 2 m u g s l J P=12):=(by show _=_;unfold vL;rw[zb n.o,zb (by omega),zb (by omega),ze (zt (by omega))]);go_enter xr,xa;go_wp2;go_ret;exact⟨tK c.o.symm,i.o _⟩
  by_cases I:32<J
  .have c:Hid (vL 2 m u g s l J P=12):=(by show _=_;unfold vL;rw[zb n.o,zb (by omega),zb (by omega),ze (zt (by omega))]);go_enter xr,xa;go_wp2;go_ret;exact⟨tK c.o.symm,i.o _⟩
  exact yb f.o (by omega)
 .have x:(k==2)=false:=by simpa using a
  have B:(k != 2)=true:=by simpa using a
  have d:=Lib.hid a;clear a;by_cases b:J=0
  .exact yb f.o (by have:=d.o;omega)
  .have F:(J==0)=false:=(by simpa using b);have E:(J != 0)=true:=(by simpa using b);have q:=Lib.hid b;clear b;have c:Hid (vL k m u g s l J P=12):=(by show _=_;unfold vL;rw[zb n.o,zb (by omega),zb (by omega),ze (zu ⟨d.o,q.o⟩)]);go_enter xr,xa;go_wp2;go_ret;exact⟨tK c.o.symm,i.o _⟩
theorem I6 (k m u g s l O:Int) (v:Value) (P:List Int) (w:World) (h:vQ w v P) (T:P.length<=1000000) (R:¬k=0) (S:¬k<0) (U:¬3<k) (V:¬m<0) (X:¬511<m) (Y:¬u<0) (Z:¬255<u) (c6:¬g<0) (c7:¬255<g) (c8:¬l<0) (c9:¬200<l) (d0:¬s<0) (d1:¬512<s) (Q:k=2) (e0:¬O<1) (e1:¬32<O):
 Calls prog 128 #[.agg #[k,m,u,g,s,l,O,v]] w fun e w'=>e=.returned (.int .i64 (vL k m u g s l O P))/\Below w w w':=by
 obtain⟨N,i⟩:=zA P.length;obtain⟨p,z,D⟩:∃p z,v=.slice p N z:=by
  rw[i.o];obtain⟨_,⟨A,F,S,rfl⟩|⟨g,o,x,rfl,c⟩⟩:=h
  .exact⟨F,S,by rw[A]⟩
  .exact⟨_,x,rfl⟩
 subst D;have q:Hid (∀o:Obj,Below w w (w.alloc o)):=fun o=>zB.alloc zL o;have H:Hid (∀o:Obj,vQ (w.alloc o) (p,N,z) P):=fun o=>xT.below h (q.o o);rw[<-i.o]at T;clear h;subst Q;have G:((2:Int)==0)=false:=by simp
 have K:((2:Int) != 0)=true:=by simp
 have E:=Lib.hid R;clear R;have y:Hid (vL 2 m u g s l O P=if tI P≠0 then tI P else if (P.length:Int)≠tX s then 3 else 0):=by show _=_;unfold vL;rw[zb E.o,zb (by omega),zb (by omega),zb (by omega)]
 obtain⟨r,d⟩:=zD (tI P);by_cases b:r=0
 .subst b;obtain⟨t,f⟩:=zD (tX s);have n:Hid (∀W:World,Calls prog 34 #[s] W fun e w'=>e=.returned t/\w'=W):=fun W=>by have:=WY s W (by omega) (by omega);rw[f.o]at this;exact this.mono fun _ _ h=>⟨h.1,h.2.symm⟩
  by_cases a:(N:Int)=t
  .have j:Hid (vL 2 m u g s l O P=0):=(by show _=_;rw[y.o,zb (fun c=>c d.o),zb (fun c=>c (by rw[<-i.o,f.o];exact a))]);subst a;go_enter xr,xa;go_wp2_with fail
   refine (fv _ P _ (H.o _) (by rw[<-i.o];omega)).mono ?_;rw[d.o];rintro e w' ⟨rfl,rfl⟩;go_wp2_with fail
   go_quiet ((go_at_call 34;exact xQ (n.o _)))
   go_wp2;go_ret;exact⟨tK j.o.symm,wY (q.o _) _⟩
  .have j:Hid (vL 2 m u g s l O P=3):=(by show _=_;rw[y.o,zb (fun c=>c d.o),ze (fun c=>a (by rw[<-i.o,f.o]at c;exact c))]);have L:((N:Int)==t)=false:=(by simpa using a);have M:((N:Int) != t)=true:=(by simpa using a);have C:=Lib.hid a;clear a;go_enter xr,xa;go_wp2_with fail
   refine (fv _ P _ (H.o _) (by rw[<-i.o];omega)).mono ?_;rw[d.o];rintro e w' ⟨rfl,rfl⟩;go_wp2_with fail
   go_quiet ((go_at_call 34;exact xQ (n.o _)))
   go_wp2;go_ret;exact⟨tK j.o.symm,wY (q.o _) _⟩
 .have j:Hid (vL 2 m u g s l O P=r):=by show _=_;rw[y.o,ze (by rw[d.o];exact b),d.o]
  have I:(r==0)=false:=by simpa using b
  have J:(r != 0)=true:=by simpa using b
  have B:=Lib.hid b;clear b;go_enter xr,xa;go_wp2_with fail
  refine (fv _ P _ (H.o _) (by rw[<-i.o];omega)).mono ?_;rw[d.o];rintro e w' ⟨rfl,rfl⟩;go_wp2;go_ret;exact⟨tK j.o.symm,q.o _⟩
theorem O0 (k m u g s l U:Int) (v:Value) (P:List Int) (w:World) (h:vQ w v P) (Y:P.length<=1000000) (T:¬k=0) (X:¬k<0) (Z:¬3<k) (c2:¬m<0) (c3:¬511<m) (c4:¬u<0) (c5:¬255<u) (c6:¬g<0) (c7:¬255<g) (c8:¬l<0) (c9:¬200<l) (d0:¬s<0) (d1:¬512<s) (S:¬k=2) (V:U=0):
 Calls prog 128 #[.agg #[k,m,u,g,s,l,U,v]] w fun e w'=>e=.returned (.int .i64 (vL k m u g s l U P))/\Below w w w':=by
 obtain⟨N,i⟩:=zA P.length;obtain⟨p,A,F⟩:∃p A,v=.slice p N A:=by
  rw[i.o];obtain⟨_,⟨C,I,X,rfl⟩|⟨g,o,x,rfl,c⟩⟩:=h
  .exact⟨I,X,by rw[C]⟩
  .exact⟨_,x,rfl⟩
 subst F;have q:Hid (∀o:Obj,Below w w (w.alloc o)):=fun o=>zB.alloc zL o;have H:Hid (∀o:Obj,vQ (w.alloc o) (p,N,A) P):=fun o=>xT.below h (q.o o);rw[<-i.o]at Y;clear h;subst V;have K:(k==0)=false:=by simpa using T
 have O:(k != 0)=true:=by simpa using T
 have G:=Lib.hid T;clear T;have B:(k==2)=false:=by simpa using S
 have J:(k != 2)=true:=by simpa using S
 have z:=Lib.hid S;clear S;have y:Hid (vL k m u g s l 0 P=if tI P≠0 then tI P else if (P.length:Int)≠tX s then 3 else 0):=by show _=_;unfold vL;rw[zb G.o,zb (by omega),zb (by omega),zb (by have:=z.o;omega)]
 obtain⟨r,d⟩:=zD (tI P);by_cases b:r=0
 .subst b;obtain⟨t,f⟩:=zD (tX s);have n:Hid (∀W:World,Calls prog 34 #[s] W fun e w'=>e=.returned t/\w'=W):=fun W=>by have:=WY s W (by omega) (by omega);rw[f.o]at this;exact this.mono fun _ _ h=>⟨h.1,h.2.symm⟩
  by_cases a:(N:Int)=t
  .have j:Hid (vL k m u g s l 0 P=0):=(by show _=_;rw[y.o,zb (fun c=>c d.o),zb (fun c=>c (by rw[<-i.o,f.o];exact a))]);subst a;go_enter xr,xa;go_wp2_with fail
   refine (fv _ P _ (H.o _) (by rw[<-i.o];omega)).mono ?_;rw[d.o];rintro e w' ⟨rfl,rfl⟩;go_wp2_with fail
   go_quiet ((go_at_call 34;exact xQ (n.o _)))
   go_wp2;go_ret;exact⟨tK j.o.symm,wY (q.o _) _⟩
  .have j:Hid (vL k m u g s l 0 P=3):=(by show _=_;rw[y.o,zb (fun c=>c d.o),ze (fun c=>a (by rw[<-i.o,f.o]at c;exact c))]);have Q:((N:Int)==t)=false:=(by simpa using a);have R:((N:Int) != t)=true:=(by simpa using a);have E:=Lib.hid a;clear a;go_enter xr,xa;go_wp2_with fail
   refine (fv _ P _ (H.o _) (by rw[<-i.o];omega)).mono ?_;rw[d.o];rintro e w' ⟨rfl,rfl⟩;go_wp2_with fail
   go_quiet ((go_at_call 34;exact xQ (n.o _)))
   go_wp2;go_ret;exact⟨tK j.o.symm,wY (q.o _) _⟩
 .have j:Hid (vL k m u g s l 0 P=r):=by show _=_;rw[y.o,ze (by rw[d.o];exact b),d.o]
  have L:(r==0)=false:=by simpa using b
  have M:(r != 0)=true:=by simpa using b
  have D:=Lib.hid b;clear b;go_enter xr,xa;go_wp2_with fail
  refine (fv _ P _ (H.o _) (by rw[<-i.o];omega)).mono ?_;rw[d.o];rintro e w' ⟨rfl,rfl⟩;go_wp2;go_ret;exact⟨tK j.o.symm,q.o _⟩
theorem VQ (k m u g s l i:Int) (v:Value) (P:List Int) (w:World) (h:vQ w v P) (j:P.length<=1000000):
 Calls prog 128 #[.agg #[k,m,u,g,s,l,i,v]] w fun e w'=>e=.returned (.int .i64 (vL k m u g s l i P))/\Below w w w':=by
 by_cases a:k=0
 .exact OZ k m u g s l i v P w h j a
 by_cases d:k<0\/3<k\/m<0\/511<m\/u<0\/255<u\/g<0\/255<g\/l<0\/200<l
 .exact QY k m u g s l i v P w h j a d
 by_cases f:s<0\/512<s
 .exact Mn k m u g s l i v P w h j a (by omega) (by omega) (by omega) (by omega) (by omega) (by omega) (by omega) (by omega) (by omega) (by omega) f
 by_cases c:(k=2/\(i<1\/32<i))\/(k≠2/\i≠0)
 .exact QX k m u g s l i v P w h j a (by omega) (by omega) (by omega) (by omega) (by omega) (by omega) (by omega) (by omega) (by omega) (by omega) (by omega) (by omega) c
 by_cases b:k=2
 .exact I6 k m u g s l i v P w h j a (by omega) (by omega) (by omega) (by omega) (by omega) (by omega) (by omega) (by omega) (by omega) (by omega) (by omega) (by omega) b (by omega) (by omega)
 .exact O0 k m u g s l i v P w h j a (by omega) (by omega) (by omega) (by omega) (by omega) (by omega) (by omega) (by omega) (by omega) (by omega) (by omega) (by omega) b (by omega)
def exp1 (x:Int×Int):List Int:=(List.range x.2.toNat).map fun i:Nat=>if x.1=0 then (0:Int) else x.1+(i:Int)
def badX (x:Int×Int):Bool:=decide (x.1<0)||decide (256<=x.1)||decide (x.2<1)||decide (8<x.2)||(decide (0<x.1)&&decide (256<x.1+x.2))
def ptsR : List (Int×Int)->List Int->List Int×Int
 | [],acc=>(acc,0)
 | x::r,acc=>if badX x then ([],1) else if 8<acc.length+(exp1 x).length then ([],2) else ptsR r (acc++exp1 x)
theorem Wf (x:Int×Int) (j:Nat) (b:(j:Int)<x.2):(exp1 x).take (j+1)=(exp1 x).take j++[if x.1=0 then 0 else x.1+j]:=by
 have a:j<(exp1 x).length:=by simp[exp1];omega
 rw[<-zY a]
 congr 2
 simp[exp1]
theorem Jx {w':World} {base:Nat} {e e':TypeId} {size:Nat} {v:Value} {n:Nat} {xs:List Value} {g:Nat} {cs:Array Value} {fr:Nat×Nat} (h:w.ownsRow base e size v n xs) (k:w.grownBy w' v.ownBlock)
 (i:w.heap[g]?=some (.cells cs e' fr)) (j:e≠e'):w'.heap[g]?=some (.cells cs e' fr):=by
 rw[k.block g (xL i) ?_]
 .exact i
 .intro a;obtain⟨_,⟨rfl,_⟩|⟨f,d,b,rfl,_,c,_⟩⟩:=h
  .cases a
  .cases a;rw[c]at i;injection i with i;injection i with _ i _;exact j i
def PtsRes (l:List (Int×Int)) (w:World) (e:Ending) (w':World):Prop:=
 ((ptsR l []).2=0/\∃v,e=.returned (.tuple #[v,()])/\w'.ownsRow w 3 1 v (ptsR l []).1.length (ints (ptsR l []).1)/\Below w w w') \/
 ((ptsR l []).2≠0/\e=.returned (.tuple #[.slice none 0 0,.int .i64 (ptsR l []).2])/\Below w w w')
theorem Jk (v:Value) (l:List (Int×Int)) (w:World) (h:xT w v 2 l.length (wT l)) (hl:l.length<=1000000) (hx:∀x,x∈l -> -9223372036854775808<=x.1/\x.1<=9223372036854775807 /\ -9223372036854775808<=x.2/\x.2<=9223372036854775807):
 Calls prog 180 #[v] w (PtsRes l w):=by
 obtain⟨i0,hi,T,W,V⟩:=xp Td;have HI:=Lib.hid hi;have X:=Lib.hid T;have Y:=Lib.hid W;have U:=Lib.hid V;clear hi T W V;obtain⟨N,HN⟩:=zA l.length;rw[<-HN.o]at h hl;obtain⟨p,cp,C,HP⟩:∃p cp,v=.slice p N cp/\Hid (0<N->∃g o,p=some ⟨g,o,none⟩/\∀(j:Nat) (x:Value),(wT l)[j]?=some x->w.cell? ⟨g,o+j,none⟩=some x):=by
  obtain⟨_,⟨h0,a0,c0,rfl⟩|⟨g,o,am,rfl,Q⟩⟩:=h
  .exact⟨a0,c0,by rw[h0],fun h=>by omega⟩
  .exact⟨_,am,rfl,fun _=>⟨g,o,rfl,Q⟩⟩
 subst C;have HX:=Lib.hid hx;clear h hx;go_enter func180,ntmps180;go_wp2;go_loopw [4,10] (fun o i wr=>∃(k:Nat) (b:List Int),k<=N/\i=.int .i64 k/\b.length<=8/\Hid (ptsR (l.drop k) b=ptsR l [])/\Hid (wr.ownsRow w 3 1 o b.length (ints b))/\Below w w wr) (fun _ i _=>N-(intOf i).toNat);case atStart=>exact⟨0,[],ye _,rfl,by simp,rfl,yW _ _ _ _,zB⟩
 case round=>
  obtain⟨k,b,hk,rfl,aq,HR,HO,HB⟩:=hrel;by_cases ae:k<N
  .obtain⟨g,o,rfl,Q⟩:=HP.o (by omega);have L:k<l.length:=(by rw[<-HN.o];exact ae);have hp:=XM l k L;obtain⟨a,ha⟩:=zA (l[k].1);obtain⟨n,hn⟩:=zA (l[k].2);have R:=HX.o _ (zz L);rw[<-ha.out,<-hn.out]at hp R;obtain⟨aH,a3,a8,a4⟩:=R;have A:∀{x:Addr} {y:Value},w.cell? x=some y->wr.cell? x=some y:=fun h=>(HB.cell (zG h)).trans h;have c1:=A (Q _ _ hp.1);have c2:=A (Q _ _ hp.2);have HC:=Lib.hid Q;clear Q hp A;rw[<-yA]at c2;have a2:(k:Int)<(N:Int):=(by omega);have HS:Hid (ptsR l []=if badX (a,n) then ([],1) else if 8<b.length+(exp1 (a,n)).length then ([],2) else ptsR (l.drop (k+1)) (b++exp1 (a,n))):=(by rw[<-HR.o,xe L,ptsR,ha.out,hn.out];exact rfl);have z:Below w w (wr.alloc (Obj.cells #[Value.int IntKind.i64 a,Value.int IntKind.i64 n] 245)):=HB.alloc HB.size _;by_cases c:badX (a,n)=true
   .have m:Hid ((ptsR l []).2=1):=(by rw[HS.o,ze c];exact rfl);have aF:=Lib.hid c;by_cases q1:a<0
    .clear c;go_wp2;go_ret2;exact zu ⟨by rw[m.o];decide,by rw[m.o];rfl,z⟩
    .by_cases q2:256<=a
     .clear c;go_wp2;go_ret2;exact zu ⟨by rw[m.o];decide,by rw[m.o];rfl,z⟩
     .by_cases q3:n<1
      .clear c;go_wp2;go_ret2;exact zu ⟨by rw[m.o];decide,by rw[m.o];rfl,z⟩
      .by_cases q4:8<n
       .clear c;go_wp2;go_ret2;exact zu ⟨by rw[m.o];decide,by rw[m.o];rfl,z⟩
       .have q5:0<a:=(by simp[badX]at c;omega);have q6:256<a+n:=(by simp[badX]at c;omega);clear c;go_wp2;go_ret2;exact zu ⟨by rw[m.o];decide,by rw[m.o];rfl,z⟩
   .have aK:0<=a:=(by simp[badX]at c;omega);have a7:a<256:=(by simp[badX]at c;omega);have a9:1<=n:=(by simp[badX]at c;omega);have aJ:n<=8:=(by simp[badX]at c;omega);have aG:0<a->a+n<=256:=(by simp[badX]at c;omega);have F:=Lib.hid c;clear c;by_cases hq:0<a;all_goals
     have aA:a+n<=512:=(by omega);have aI:¬(256:Int)<a+n\/¬(0:Int)<a:=by omega
     first|(have a6:¬(256:Int)<a+n:=by omega)|skip
     obtain⟨M,aj⟩:∃M:World,M=wr:=⟨_,rfl⟩;subst aj;go_wp2;go_loopw [4,47] (fun o i wi=>∃j:Nat,(j:Int)<=n/\i=.int .i64 j/\Hid (wi.ownsRow w 3 1 o (b.length+j) (ints (b++(exp1 (a,n)).take j)))/\Below w w wi/\Hid (wi.heap[M.heap.size]?=some (.cells #[a,n] 245))) (fun _ i _=>(n-intOf i).toNat);case atStart =>refine⟨0,by omega,rfl,?_,z,zH⟩;simp only[xE,xn,vA];exact HO.o.alloc _
     case round=>
      obtain⟨j,hj,rfl,q,f,D⟩:=hrel;have d1:wr.cell? (M.heap.size,0)=some (.int .i64 a):=zC D.o;have d2:wr.cell? (M.heap.size,1)=some (.int .i64 n):=zC D.o;by_cases S:(j:Int)<n
      .by_cases P:a=0
       .have al:(a==0)=true:=(by simpa using P);have Z:=Lib.hid P;clear P;have t:=(q.o.alloc (.cells #[a] 3)).lt;go_wp2_with (first
         | (at_builtin;refine yH _ rfl _ _ 49 rfl w.heap.size 3 i0 (.int .i64 0) 1 8 intsT HI.o X.o Y.o U.o rfl (by decide) _ _ _ rfl (q.o.alloc _) ⟨wr.heap.size,0,none⟩ 1 1 [.int .i64 a] rfl rfl (fun j u C=>Zn _ #[a] _ j u C) (fun u C=>by simp at C;subst C;rfl) (by unfold maxLen;omega) (by omega) (by have:=f.size;simp;omega) ?_;intro v' J s d _))
        have B:Hid (J.ownsRow w 3 1 v' (b.length+(j+1)) (ints (b++(exp1 (a,n)).take (j+1)))):=(by rw[Wf (a,n) j S];rw[ze Z.o,<-Z.o];have e:ints (b++(List.take j (exp1 (a,n))++[a]))=ints (b++List.take j (exp1 (a,n)))++[.int .i64 a]:=(by simp[ints]);rw[e];exact s);have O:Below w w J:=xC (f.alloc f.size _) d (by have:=f.size;simp;omega) (fun r R=>(t r R).1);have H:Hid (J.heap[M.heap.size]?=some (.cells #[a,n] 245)):=Jx (q.o.alloc _) d (tf D.o _) (by decide);clear s d t;go_wp2;go_roundw;case rel=>exact⟨j+1,by omega,by go_num,B,O,H⟩
        case measure=>simp[intOf];omega
       .have al:(a==0)=false:=(by simpa using P);have Z:=Lib.hid P;clear P;have G:=zW (a+(j:Int));have an:=Lib.hid G;clear G;have t:=(q.o.alloc (.cells #[.int .i64 (a+j)] 3)).lt;go_wp2_with (first
         | (at_builtin;refine yH _ rfl _ _ 49 rfl w.heap.size 3 i0 (.int .i64 0) 1 8 intsT HI.o X.o Y.o U.o rfl (by decide) _ _ _ rfl (q.o.alloc _) ⟨wr.heap.size,0,none⟩ 1 1 [.int .i64 (a+j)] rfl rfl (fun jj u C=>Zn _ #[.int .i64 (a+j)] _ jj u C) (fun u C=>by simp at C;subst C;rfl) (by unfold maxLen;omega) (by omega) (by have:=f.size;simp;omega) ?_;intro v' J s d _))
        have B:Hid (J.ownsRow w 3 1 v' (b.length+(j+1)) (ints (b++(exp1 (a,n)).take (j+1)))):=(by rw[Wf (a,n) j S];rw[zb Z.o];have e:ints (b++(List.take j (exp1 (a,n))++[(a+j)]))=ints (b++List.take j (exp1 (a,n)))++[.int .i64 (a+j)]:=(by simp[ints]);rw[e];exact s);have O:Below w w J:=xC (f.alloc f.size _) d (by have:=f.size;simp;omega) (fun r R=>(t r R).1);have H:Hid (J.heap[M.heap.size]?=some (.cells #[a,n] 245)):=Jx (q.o.alloc _) d (tf D.o _) (by decide);clear s d t;go_wp2;go_roundw;case rel=>exact⟨j+1,by omega,by go_num,B,O,H⟩
        case measure=>simp[intOf];omega
      .obtain⟨q2,ai,ag,_⟩:=tR q.o;subst ag;have I:(exp1 (a,n)).length=j:=(by simp[exp1];omega);have ad:Hid ((exp1 (a,n)).take j=exp1 (a,n)):=(by rw[<-I];exact xN);have E:=Lib.hid I;clear I;by_cases h8:8<b.length+j
       .have m:Hid ((ptsR l []).2=2):=(by rw[HS.o,zb F.o,ze (by rw[E.o];exact h8)];exact rfl);go_wp2;go_ret2;exact zu ⟨by rw[m.o];decide,by rw[m.o];rfl,f⟩
       .have m:Hid (ptsR (l.drop (k+1)) (b++exp1 (a,n))=ptsR l []):=(by rw[HS.o,zb F.o,zb (by rw[E.o];exact h8)];exact rfl);have B:Hid (wr.ownsRow w 3 1 (q2,(b.length+j),ai) (b++exp1 (a,n)).length (ints (b++exp1 (a,n)))):=(by have:=q.o;rw[ad.o]at this;rw[zl,E.o];exact this);have K:(b++exp1 (a,n)).length<=8:=(by rw[zl,E.o];omega);go_wp2;go_roundw;case rel=>exact⟨k+1,b++exp1 (a,n),by omega,by go_num,K,m,B,f⟩
        case measure=>simp[intOf];omega
  .have m:Hid (ptsR l []=(b,0)):=(by rw[<-HR.o,yP (by rw[<-HN.o];omega)];exact rfl);go_wp2;go_ret2;refine zt ⟨by rw[m.o],_,rfl,?_,HB⟩;rw[m.o];exact HO.o
