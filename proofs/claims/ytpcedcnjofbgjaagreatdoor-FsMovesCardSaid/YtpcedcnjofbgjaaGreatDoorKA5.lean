import Derived.Test.YtpcedcnjofbgjaaGreatDoorKA4
import Derived.Deep.QuietTactic
import Derived.BigQuiet
import Derived.IntWalk
import Derived.Lib.Overlaps
import Derived.Laws.Externs
set_option maxHeartbeats 0
set_option linter.all false
set_option maxRecDepth 100000
namespace Go.Proofs.YtpcedcnjofbgjaaGreatDoor
open Go.Proofs.Tryz Go.RowKit
variable {B g:Nat} {a w:World} {l:List (Int×Int)} {u:Int} {v:Value}
abbrev xA:=@Calls.quiet_of_same
theorem NL (h:Below B a w) (n):Below B a (w.drewN n):=⟨h.os,h.tape,h.output,h.size,h.block⟩
theorem JT: (prog.info? 3).map (λi=>(i.zero,i.size,i.bytes))=some (some (.int .i64 0),1,8):=by kernel_rfl
theorem intsT: prog.underlying 33=some (.slice 3):=by kernel_rfl
def jy (s:Int):Int:=if s<=0 then 0 else (s-1) / 64+1
theorem P3 (s) (w) (b: -9223372036854775808<=s) (c:s<=9223372036854775807):
 Calls prog 71 #[(s:Int)] w λe w'=>e=.returned (jy s:Int)/\w=w':=by
 by_cases h:s<=0
 .have a:Hid (jy s=0):=by show _=_;unfold jy;rw[ze h]
  go_enter func71,ntmps71
  go_wp2;go_ret;exact⟨uA a.o.symm,rfl⟩
 .have a:Hid (jy s=(s-1) / 64+1):=by show _=_;unfold jy;rw[zb h]
  go_enter func71,ntmps71
  go_wp2;go_ret;exact⟨uA a.o.symm,rfl⟩
def tm (k m u g s l up:Int) (P:List Int):Int:=
 if k=0 then (if m=0/\u=0/\g=0/\s=0/\l=0/\up=0/\P.length=0 then 0 else 3)
 else if k<0\/3<k\/m<0\/511<m\/u<0\/255<u\/g<0\/255<g\/l<0\/200<l then 1
 else if s<0\/512<s then 2
 else if (k=2/\(up<1\/32<up))\/(k≠2/\up≠0) then 12
 else if mT P≠0 then mT P
 else if P.length≠jy s then 3 else 0
theorem jz (k m u g s l up) (v) (P) (w) (h:tP w v P) (I:P.length<=1000000) (J:k=0):
 Calls prog 127 #[.agg #[(k:Int),(m:Int),(u:Int),(g:Int),(s:Int),(l:Int),(up:Int),v]] w (κ w (tm k m u g s l up P:Int)):=by
 obtain⟨N,y⟩:=zA P.length;obtain⟨p,B,i⟩:∃p B,v=.slice p N B:=by
  rw[y.o];obtain⟨_,⟨C,D,E,rfl⟩|⟨g,o,z,rfl,q⟩⟩:=h
  .exact⟨D,E,by rw[C]⟩
  .exact⟨_,z,rfl⟩
 subst i;have d:Hid (∀o,Below w w (w.alloc o)):=λo=>zB.alloc zL o;have H:Hid (∀o,tP (w.alloc o) (p,N,B) P):=λo=>uq.below h (d.o o);rw[<-y.o]at I;clear h;subst J;by_cases x:m=0
 rotate_left
 .have j:(m==0)=false:=by simpa using x
  have n:(m != 0)=true:=by simpa using x
  have c:=za x;clear x;have a:Hid (tm 0 m u g s l up P=3):=by show _=_;unfold tm;rw[ze rfl,zb (λq=>c.o (by omega))]
  go_enter func127,ntmps127
  go_wp2;go_ret;exact⟨uA a.o.symm,d.o _⟩
 subst x;by_cases i:u=0
 rotate_left
 .have j:(u==0)=false:=by simpa using i
  have n:(u != 0)=true:=by simpa using i
  have c:=za i;clear i;have a:Hid (tm 0 0 u g s l up P=3):=by show _=_;unfold tm;rw[ze rfl,zb (λq=>c.o (by omega))]
  go_enter func127,ntmps127
  go_wp2;go_ret;exact⟨uA a.o.symm,d.o _⟩
 subst i;by_cases r:g=0
 rotate_left
 .have j:(g==0)=false:=by simpa using r
  have n:(g != 0)=true:=by simpa using r
  have c:=za r;clear r;have a:Hid (tm 0 0 0 g s l up P=3):=by show _=_;unfold tm;rw[ze rfl,zb (λq=>c.o (by omega))]
  go_enter func127,ntmps127
  go_wp2;go_ret;exact⟨uA a.o.symm,d.o _⟩
 subst r;by_cases t:s=0
 rotate_left
 .have j:(s==0)=false:=by simpa using t
  have n:(s != 0)=true:=by simpa using t
  have c:=za t;clear t;have a:Hid (tm 0 0 0 0 s l up P=3):=by show _=_;unfold tm;rw[ze rfl,zb (λq=>c.o (by omega))]
  go_enter func127,ntmps127
  go_wp2;go_ret;exact⟨uA a.o.symm,d.o _⟩
 subst t;by_cases I:l=0
 rotate_left
 .have j:(l==0)=false:=by simpa using I
  have n:(l != 0)=true:=by simpa using I
  have c:=za I;clear I;have a:Hid (tm 0 0 0 0 0 l up P=3):=by show _=_;unfold tm;rw[ze rfl,zb (λq=>c.o (by omega))]
  go_enter func127,ntmps127
  go_wp2;go_ret;exact⟨uA a.o.symm,d.o _⟩
 subst I;by_cases b:up=0
 rotate_left
 .have j:(up==0)=false:=by simpa using b
  have n:(up != 0)=true:=by simpa using b
  have c:=za b;clear b;have a:Hid (tm 0 0 0 0 0 0 up P=3):=by show _=_;unfold tm;rw[ze rfl,zb (λq=>c.o (by omega))]
  go_enter func127,ntmps127
  go_wp2;go_ret;exact⟨uA a.o.symm,d.o _⟩
 subst b;by_cases A:N=0
 .have a:Hid (tm 0 0 0 0 0 0 0 P=0):=by show _=_;unfold tm;rw[ze rfl,ze (by rw[<-y.o];omega)]
  subst A;go_enter func127,ntmps127;go_wp2;go_ret;exact⟨uA a.o.symm,d.o _⟩
 .have a:Hid (tm 0 0 0 0 0 0 0 P=3):=by show _=_;unfold tm;rw[ze rfl,zb (by rw[<-y.o];omega)]
  have f:¬(N:Int)=0:=by omega
  have j:((N:Int)==0)=false:=by simpa using f
  have n:((N:Int) != 0)=true:=by simpa using f
  have G:=za f;have F:=za A;clear A f;go_enter func127,ntmps127;go_wp2;go_ret;exact⟨uA a.o.symm,d.o _⟩
theorem ED (k m u g s l up) (v) (P) (w) (h:tP w v P) (L:P.length<=1000000) (J:¬k=0) (K:k<0\/3<k\/m<0\/511<m\/u<0\/255<u\/g<0\/255<g\/l<0\/200<l):
 Calls prog 127 #[.agg #[(k:Int),(m:Int),(u:Int),(g:Int),(s:Int),(l:Int),(up:Int),v]] w (κ w (tm k m u g s l up P:Int)):=by
 have _:=L;obtain⟨N,j⟩:=zA P.length;obtain⟨p,f,r⟩:∃p f,v=.slice p N f:=by
  rw[j.o];obtain⟨_,⟨q,t,n,rfl⟩|⟨g,o,d,rfl,K⟩⟩:=h
  .exact⟨t,n,by rw[q]⟩
  .exact⟨_,d,rfl⟩
 subst r;have c:Hid (∀o,Below w w (w.alloc o)):=λo=>zB.alloc zL o;have H:Hid (∀o,tP (w.alloc o) (p,N,f) P):=λo=>uq.below h (c.o o);rw[<-j.o]at L;clear h;have i:=za K;clear K;have x:(k==0)=false:=by simpa using J
 have F:(k != 0)=true:=by simpa using J
 by_cases n:k<0
 .have b:=za J;clear J;have a:Hid (tm k m u g s l up P=1):=by show _=_;unfold tm;rw[zb b.o,ze (by omega)]
  go_enter func127,ntmps127
  go_wp2;go_ret;exact⟨uA a.o.symm,c.o _⟩
 by_cases B:3<k
 .have b:=za J;clear J;have a:Hid (tm k m u g s l up P=1):=by show _=_;unfold tm;rw[zb b.o,ze (by omega)]
  go_enter func127,ntmps127
  go_wp2;go_ret;exact⟨uA a.o.symm,c.o _⟩
 by_cases C:m<0
 .have b:=za J;clear J;have a:Hid (tm k m u g s l up P=1):=by show _=_;unfold tm;rw[zb b.o,ze (by omega)]
  go_enter func127,ntmps127
  go_wp2;go_ret;exact⟨uA a.o.symm,c.o _⟩
 by_cases D:511<m
 .have b:=za J;clear J;have a:Hid (tm k m u g s l up P=1):=by show _=_;unfold tm;rw[zb b.o,ze (by omega)]
  go_enter func127,ntmps127
  go_wp2;go_ret;exact⟨uA a.o.symm,c.o _⟩
 by_cases I:u<0
 .have b:=za J;clear J;have a:Hid (tm k m u g s l up P=1):=by show _=_;unfold tm;rw[zb b.o,ze (by omega)]
  go_enter func127,ntmps127
  go_wp2;go_ret;exact⟨uA a.o.symm,c.o _⟩
 by_cases E:255<u
 .have b:=za J;clear J;have a:Hid (tm k m u g s l up P=1):=by show _=_;unfold tm;rw[zb b.o,ze (by omega)]
  go_enter func127,ntmps127
  go_wp2;go_ret;exact⟨uA a.o.symm,c.o _⟩
 by_cases G:g<0
 .have b:=za J;clear J;have a:Hid (tm k m u g s l up P=1):=by show _=_;unfold tm;rw[zb b.o,ze (by omega)]
  go_enter func127,ntmps127
  go_wp2;go_ret;exact⟨uA a.o.symm,c.o _⟩
 by_cases A:255<g
 .have b:=za J;clear J;have a:Hid (tm k m u g s l up P=1):=by show _=_;unfold tm;rw[zb b.o,ze (by omega)]
  go_enter func127,ntmps127
  go_wp2;go_ret;exact⟨uA a.o.symm,c.o _⟩
 by_cases y:l<0
 .have b:=za J;clear J;have a:Hid (tm k m u g s l up P=1):=by show _=_;unfold tm;rw[zb b.o,ze (by omega)]
  go_enter func127,ntmps127
  go_wp2;go_ret;exact⟨uA a.o.symm,c.o _⟩
 by_cases z:200<l
 .have b:=za J;clear J;have a:Hid (tm k m u g s l up P=1):=by show _=_;unfold tm;rw[zb b.o,ze (by omega)]
  go_enter func127,ntmps127
  go_wp2;go_ret;exact⟨uA a.o.symm,c.o _⟩
 exact yi i.o (by omega)
theorem Vg (k m u g s l up) (v) (P) (w) (h:tP w v P) (C:P.length<=1000000) (A:¬k=0) (D:¬k<0) (E:¬3<k) (F:¬m<0) (G:¬511<m) (I:¬u<0) (J:¬255<u) (K:¬g<0) (L:¬255<g) (M:¬l<0) (O:¬200<l) (B:s<0\/512<s):
 Calls prog 127 #[.agg #[(k:Int),(m:Int),(u:Int),(g:Int),(s:Int),(l:Int),(up:Int),v]] w (κ w (tm k m u g s l up P:Int)):=by
 have _:=C;obtain⟨N,i⟩:=zA P.length;obtain⟨p,d,q⟩:∃p d,v=.slice p N d:=by
  rw[i.o];obtain⟨_,⟨n,r,D,rfl⟩|⟨g,o,b,rfl,B⟩⟩:=h
  .exact⟨r,D,by rw[n]⟩
  .exact⟨_,b,rfl⟩
 subst q;have c:Hid (∀o,Below w w (w.alloc o)):=λo=>zB.alloc zL o;have H:Hid (∀o,tP (w.alloc o) (p,N,d) P):=λo=>uq.below h (c.o o);rw[<-i.o]at C;clear h;have f:=za B;clear B;have t:(k==0)=false:=by simpa using A
 have z:(k != 0)=true:=by simpa using A
 have j:=za A;clear A;by_cases y:s<0
 .have a:Hid (tm k m u g s l up P=2):=by show _=_;unfold tm;rw[zb j.o,zb (by omega),ze (by omega)]
  go_enter func127,ntmps127
  go_wp2;go_ret;exact⟨uA a.o.symm,c.o _⟩
 by_cases x:512<s
 .have a:Hid (tm k m u g s l up P=2):=by show _=_;unfold tm;rw[zb j.o,zb (by omega),ze (by omega)]
  go_enter func127,ntmps127
  go_wp2;go_ret;exact⟨uA a.o.symm,c.o _⟩
 exact yi f.o (by omega)
theorem KB (k m u g s l up) (v) (P) (w) (h:tP w v P) (L:P.length<=1000000) (J:¬k=0) (M:¬k<0) (O:¬3<k) (Q:¬m<0) (R:¬511<m) (S:¬u<0) (T:¬255<u) (U:¬g<0) (V:¬255<g) (W:¬l<0) (X:¬200<l) (Y:¬s<0) (Z:¬512<s) (K:(k=2/\(up<1\/32<up))\/(k≠2/\up≠0)):
 Calls prog 127 #[.agg #[(k:Int),(m:Int),(u:Int),(g:Int),(s:Int),(l:Int),(up:Int),v]] w (κ w (tm k m u g s l up P:Int)):=by
 have _:=L;obtain⟨N,t⟩:=zA P.length;obtain⟨p,r,z⟩:∃p r,v=.slice p N r:=by
  rw[t.o];obtain⟨_,⟨y,A,M,rfl⟩|⟨g,o,j,rfl,K⟩⟩:=h
  .exact⟨A,M,by rw[y]⟩
  .exact⟨_,j,rfl⟩
 subst z;have i:Hid (∀o,Below w w (w.alloc o)):=λo=>zB.alloc zL o;have H:Hid (∀o,tP (w.alloc o) (p,N,r) P):=λo=>uq.below h (i.o o);rw[<-t.o]at L;clear h;have C:(k==0)=false:=by simpa using J
 have G:(k != 0)=true:=by simpa using J
 have n:=za J;clear J;have f:=za K;clear K;by_cases a:k=2
 .subst a;by_cases D:up<1
  .have c:Hid (tm 2 m u g s l up P=12):=(by show _=_;unfold tm;rw[zb n.o,zb (by omega),zb (by omega),ze (zu (by omega))]);go_enter func127,ntmps127;go_wp2;go_ret;exact⟨uA c.o.symm,i.o _⟩
  by_cases I:32<up
  .have c:Hid (tm 2 m u g s l up P=12):=(by show _=_;unfold tm;rw[zb n.o,zb (by omega),zb (by omega),ze (zu (by omega))]);go_enter func127,ntmps127;go_wp2;go_ret;exact⟨uA c.o.symm,i.o _⟩
  exact yi f.o (by omega)
 .have x:(k==2)=false:=by simpa using a
  have B:(k != 2)=true:=by simpa using a
  have d:=za a;clear a;by_cases b:up=0
  .exact yi f.o (by have:=d.o;omega)
  .have F:(up==0)=false:=(by simpa using b);have E:(up != 0)=true:=(by simpa using b);have q:=za b;clear b;have c:Hid (tm k m u g s l up P=12):=(by show _=_;unfold tm;rw[zb n.o,zb (by omega),zb (by omega),ze (zw ⟨d.o,q.o⟩)]);go_enter func127,ntmps127;go_wp2;go_ret;exact⟨uA c.o.symm,i.o _⟩
theorem Og (k m u g s l up) (v) (P) (w) (h:tP w v P) (S:P.length<=1000000) (Q:¬k=0) (R:¬k<0) (T:¬3<k) (U:¬m<0) (V:¬511<m) (X:¬u<0) (Y:¬255<u) (Z:¬g<0) (c7:¬255<g) (c8:¬l<0) (c9:¬200<l) (d0:¬s<0) (d1:¬512<s) (O:k=2) (e0:¬up<1) (e1:¬32<up):
 Calls prog 127 #[.agg #[(k:Int),(m:Int),(u:Int),(g:Int),(s:Int),(l:Int),(up:Int),v]] w (κ w (tm k m u g s l up P:Int)):=by
 obtain⟨N,i⟩:=zA P.length;obtain⟨p,z,D⟩:∃p z,v=.slice p N z:=by
  rw[i.o];obtain⟨_,⟨A,F,R,rfl⟩|⟨g,o,x,rfl,c⟩⟩:=h
  .exact⟨F,R,by rw[A]⟩
  .exact⟨_,x,rfl⟩
 subst D;have q:Hid (∀o,Below w w (w.alloc o)):=λo=>zB.alloc zL o;have H:Hid (∀o,tP (w.alloc o) (p,N,z) P):=λo=>uq.below h (q.o o);rw[<-i.o]at S;clear h;subst O;have G:((2:Int)==0)=false:=by simp
 have K:((2:Int) != 0)=true:=by simp
 have E:=za Q;clear Q;have y:Hid (tm 2 m u g s l up P=if mT P≠0 then mT P else if P.length≠jy s then 3 else 0):=by show _=_;unfold tm;rw[zb E.o,zb (by omega),zb (by omega),zb (by omega)]
 obtain⟨r,d⟩:=zD (mT P);by_cases b:r=0
 .subst b;obtain⟨t,f⟩:=zD (jy s);have n:Hid (∀W,Calls prog 71 #[s] W <|ρ t λw'=>w'=W):=λW=>by have:=P3 s W (by omega) (by omega);rw[f.o]at this;exact this.mono λ_ _ h=>⟨h.1,h.2.symm⟩
  by_cases a:(N:Int)=t
  .have j:Hid (tm 2 m u g s l up P=0):=(by show _=_;rw[y.o,zb (λc=>c d.o),zb (λc=>c (by rw[<-i.o,f.o];exact a))]);subst a;go_enter func127,ntmps127;go_wp2_with fail
   refine (Mk _ P _ (H.o _) (by rw[<-i.o];omega)).mono ?_;rw[d.o];rintro e w' ⟨rfl,rfl⟩;go_wp2_with fail
   go_quiet ((go_at_call 71;exact xA (n.o _)))
   go_wp2;go_ret;exact⟨uA j.o.symm,below_drewN (q.o _) _⟩
  .have j:Hid (tm 2 m u g s l up P=3):=(by show _=_;rw[y.o,zb (λc=>c d.o),ze (λc=>a (by rw[<-i.o,f.o]at c;exact c))]);have L:(N==t)=false:=(by simpa using a);have M:(N != t)=true:=(by simpa using a);have C:=za a;clear a;go_enter func127,ntmps127;go_wp2_with fail
   refine (Mk _ P _ (H.o _) (by rw[<-i.o];omega)).mono ?_;rw[d.o];rintro e w' ⟨rfl,rfl⟩;go_wp2_with fail
   go_quiet ((go_at_call 71;exact xA (n.o _)))
   go_wp2;go_ret;exact⟨uA j.o.symm,below_drewN (q.o _) _⟩
 .have j:Hid (tm 2 m u g s l up P=r):=by show _=_;rw[y.o,ze (by rw[d.o];exact b),d.o]
  have I:(r==0)=false:=by simpa using b
  have J:(r != 0)=true:=by simpa using b
  have B:=za b;clear b;go_enter func127,ntmps127;go_wp2_with fail
  refine (Mk _ P _ (H.o _) (by rw[<-i.o];omega)).mono ?_;rw[d.o];rintro e w' ⟨rfl,rfl⟩;go_wp2;go_ret;exact⟨uA j.o.symm,q.o _⟩
theorem jA (k m u g s l up) (v) (P) (w) (h:tP w v P) (X:P.length<=1000000) (T:¬k=0) (V:¬k<0) (Y:¬3<k) (Z:¬m<0) (c3:¬511<m) (c4:¬u<0) (c5:¬255<u) (c6:¬g<0) (c7:¬255<g) (c8:¬l<0) (c9:¬200<l) (d0:¬s<0) (d1:¬512<s) (S:¬k=2) (U:up=0):
 Calls prog 127 #[.agg #[(k:Int),(m:Int),(u:Int),(g:Int),(s:Int),(l:Int),(up:Int),v]] w (κ w (tm k m u g s l up P:Int)):=by
 obtain⟨N,i⟩:=zA P.length;obtain⟨p,A,F⟩:∃p A,v=.slice p N A:=by
  rw[i.o];obtain⟨_,⟨C,I,V,rfl⟩|⟨g,o,x,rfl,c⟩⟩:=h
  .exact⟨I,V,by rw[C]⟩
  .exact⟨_,x,rfl⟩
 subst F;have q:Hid (∀o,Below w w (w.alloc o)):=λo=>zB.alloc zL o;have H:Hid (∀o,tP (w.alloc o) (p,N,A) P):=λo=>uq.below h (q.o o);rw[<-i.o]at X;clear h;subst U;have K:(k==0)=false:=by simpa using T
 have O:(k != 0)=true:=by simpa using T
 have G:=za T;clear T;have B:(k==2)=false:=by simpa using S
 have J:(k != 2)=true:=by simpa using S
 have z:=za S;clear S;have y:Hid (tm k m u g s l 0 P=if mT P≠0 then mT P else if P.length≠jy s then 3 else 0):=by show _=_;unfold tm;rw[zb G.o,zb (by omega),zb (by omega),zb (by have:=z.o;omega)]
 obtain⟨r,d⟩:=zD (mT P);by_cases b:r=0
 .subst b;obtain⟨t,f⟩:=zD (jy s);have n:Hid (∀W,Calls prog 71 #[s] W <|ρ t λw'=>w'=W):=λW=>by have:=P3 s W (by omega) (by omega);rw[f.o]at this;exact this.mono λ_ _ h=>⟨h.1,h.2.symm⟩
  by_cases a:(N:Int)=t
  .have j:Hid (tm k m u g s l 0 P=0):=(by show _=_;rw[y.o,zb (λc=>c d.o),zb (λc=>c (by rw[<-i.o,f.o];exact a))]);subst a;go_enter func127,ntmps127;go_wp2_with fail
   refine (Mk _ P _ (H.o _) (by rw[<-i.o];omega)).mono ?_;rw[d.o];rintro e w' ⟨rfl,rfl⟩;go_wp2_with fail
   go_quiet ((go_at_call 71;exact xA (n.o _)))
   go_wp2;go_ret;exact⟨uA j.o.symm,below_drewN (q.o _) _⟩
  .have j:Hid (tm k m u g s l 0 P=3):=(by show _=_;rw[y.o,zb (λc=>c d.o),ze (λc=>a (by rw[<-i.o,f.o]at c;exact c))]);have Q:(N==t)=false:=(by simpa using a);have R:(N != t)=true:=(by simpa using a);have E:=za a;clear a;go_enter func127,ntmps127;go_wp2_with fail
   refine (Mk _ P _ (H.o _) (by rw[<-i.o];omega)).mono ?_;rw[d.o];rintro e w' ⟨rfl,rfl⟩;go_wp2_with fail
   go_quiet ((go_at_call 71;exact xA (n.o _)))
   go_wp2;go_ret;exact⟨uA j.o.symm,below_drewN (q.o _) _⟩
 .have j:Hid (tm k m u g s l 0 P=r):=by show _=_;rw[y.o,ze (by rw[d.o];exact b),d.o]
  have L:(r==0)=false:=by simpa using b
  have M:(r != 0)=true:=by simpa using b
  have D:=za b;clear b;go_enter func127,ntmps127;go_wp2_with fail
  refine (Mk _ P _ (H.o _) (by rw[<-i.o];omega)).mono ?_;rw[d.o];rintro e w' ⟨rfl,rfl⟩;go_wp2;go_ret;exact⟨uA j.o.symm,q.o _⟩
theorem PI (k m u g s l up) (v) (P) (w) (h:tP w v P) (i:P.length<=1000000):
 Calls prog 127 #[.agg #[(k:Int),(m:Int),(u:Int),(g:Int),(s:Int),(l:Int),(up:Int),v]] w (κ w (tm k m u g s l up P:Int)):=by
 by_cases a:k=0
 .exact jz k m u g s l up v P w h i a
 by_cases d:k<0\/3<k\/m<0\/511<m\/u<0\/255<u\/g<0\/255<g\/l<0\/200<l
 .exact ED k m u g s l up v P w h i a d
 by_cases f:s<0\/512<s
 .exact Vg k m u g s l up v P w h i a (by omega) (by omega) (by omega) (by omega) (by omega) (by omega) (by omega) (by omega) (by omega) (by omega) f
 by_cases c:(k=2/\(up<1\/32<up))\/(k≠2/\up≠0)
 .exact KB k m u g s l up v P w h i a (by omega) (by omega) (by omega) (by omega) (by omega) (by omega) (by omega) (by omega) (by omega) (by omega) (by omega) (by omega) c
 by_cases b:k=2
 .exact Og k m u g s l up v P w h i a (by omega) (by omega) (by omega) (by omega) (by omega) (by omega) (by omega) (by omega) (by omega) (by omega) (by omega) (by omega) b (by omega) (by omega)
 .exact jA k m u g s l up v P w h i a (by omega) (by omega) (by omega) (by omega) (by omega) (by omega) (by omega) (by omega) (by omega) (by omega) (by omega) (by omega) b (by omega)
def exp1 (x:Int×Int):List Int:=(List.range x.2.toNat).map λi:Nat=>if x.1=0 then 0 else x.1+i
def badX (x:Int×Int):Bool:=decide (x.1<0)||decide (256<=x.1)||decide (x.2<1)||decide (8<x.2)||(decide (0<x.1)&&decide (256<x.1+x.2))
def ptsR : List (Int×Int)->List Int->List Int×Int
 | [],acc=>(acc,0)
 | x::r,acc=>if badX x then ([],1) else if 8<acc.length+(exp1 x).length then ([],2) else ptsR r (acc++exp1 x)
theorem KW (x) (j:Nat) (b:(j:Int)<x.2):(exp1 x).take (j+1)=(exp1 x).take j++[if x.1=0 then 0 else x.1+j]:=by
 have a:j<(exp1 x).length:=by simp[exp1];omega
 rw[<-zU a]
 congr 2
 simp[exp1]
theorem NH {w':World} {base:Nat} {e e':TypeId} {size:Nat} {n:Nat} {xs:List Value} {cs:Array Value} {fr:Nat×Nat} (h:w.ownsRow base e size v n xs) (k:w.grownBy w' v.ownBlock)
 (i:w.heap[g]?=some (.cells cs e' fr)) (j:e≠e'):w'.heap[g]?=some (.cells cs e' fr):=by
 rw[k.block g (xB i) ?_]
 .exact i
 .intro a;obtain⟨_,⟨rfl,_⟩|⟨f,d,b,rfl,_,c,_⟩⟩:=h
  .cases a
  .cases a;rw[c]at i;injection i with i;injection i with _ i _;exact j i
def PtsRes (l:List (Int×Int)) (w:World) (e:Ending) (w':World):Prop:=
 ((ptsR l []).2=0/\∃v,e=.returned (.tuple #[v,()])/\w'.ownsRow w 3 1 v (ptsR l []).1.length (ints (ptsR l []).1)/\Below w w w') \/
 ((ptsR l []).2≠0/\e=.returned (.tuple #[.slice none 0 0,.int .i64 (ptsR l []).2])/\Below w w w')
theorem kf (
 v) (
  l) (w) (h:uq w v 2 l.length (qP l)) (hl:l.length<=1000000) (hx:∀x,x∈l -> -9223372036854775808<=x.1/\x.1<=9223372036854775807 /\ -9223372036854775808<=x.2/\x.2<=9223372036854775807):
 Calls prog 183 #[v] w (PtsRes l w):=by
 obtain⟨i0,hi,R,V,T⟩:=yX JT;have HI:=za hi;have W:=za R;have X:=za V;have S:=za T;clear hi R V T;obtain⟨N,HN⟩:=zA l.length;rw[<-HN.o]at h hl;obtain⟨p,cp,C,HP⟩:∃p cp,v=.slice p N cp/\Hid (0<N->∃g o,p=some ⟨g,o,none⟩/\∀(j:Nat) (x:Value),(qP l)[j]?=some x->w.cell? ⟨g,o+j,none⟩=some x):=by
  obtain⟨_,⟨h0,a0,c0,rfl⟩|⟨g,o,am,rfl,O⟩⟩:=h
  .exact⟨a0,c0,by rw[h0],λh=>by omega⟩
  .exact⟨_,am,rfl,λ_=>⟨g,o,rfl,O⟩⟩
 subst C;have HX:=za hx;clear h hx;go_enter func183,ntmps183;go_wp2;go_loopw [4,10] (λo i wr=>∃(k:Nat) (b:List Int),k<=N/\i=.int .i64 k/\b.length<=8/\Hid (ptsR (l.drop k) b=ptsR l [])/\Hid (wr.ownsRow w 3 1 o b.length (ints b))/\Below w w wr) (λ_ i _=>N-(intOf i).toNat)
 .exact⟨0,[],yh _,rfl,by simp,rfl,yL _ _ _ _,zB⟩
 .obtain⟨k,b,hk,rfl,aq,HR,HO,Z⟩:=hrel;by_cases ad:k<N
  .obtain⟨g,o,rfl,O⟩:=HP.o (by omega);have K:k<l.length:=(by rw[<-HN.o];exact ad);have hp:=Un l k K;obtain⟨a,ha⟩:=zA (l[k].1);obtain⟨n,hn⟩:=zA (l[k].2);have P:=HX.o _ (Nj K);rw[<-ha.out,<-hn.out]at hp P;obtain⟨aH,a3,a8,a4⟩:=P;have A:∀{x} {y},w.cell? x=some y->wr.cell? x=some y:=λh=>(Z.cell (zy h)).trans h;have c1:=A (O _ _ hp.1);have c2:=A (O _ _ hp.2);have HC:=za O;clear O hp A;rw[<-yp]at c2;have a2:k<(N:Int):=(by omega);have HS:Hid (ptsR l []=if badX (a,n) then ([],1) else if 8<b.length+(exp1 (a,n)).length then ([],2) else ptsR (l.drop (k+1)) (b++exp1 (a,n))):=(by rw[<-HR.o,yR K,ptsR,ha.out,hn.out];exact rfl);have z:Below w w (wr.alloc (Obj.cells #[Value.int IntKind.i64 a,Value.int IntKind.i64 n] 232)):=Z.alloc Z.size _;by_cases c:badX (a,n)=true
   .have m:Hid ((ptsR l []).2=1):=(by rw[HS.o,ze c];exact rfl);have aF:=za c;by_cases q1:a<0
    .clear c;go_wp2;go_ret2;exact zw ⟨by rw[m.o];decide,by rw[m.o];rfl,z⟩
    .by_cases q2:256<=a
     .clear c;go_wp2;go_ret2;exact zw ⟨by rw[m.o];decide,by rw[m.o];rfl,z⟩
     .by_cases q3:n<1
      .clear c;go_wp2;go_ret2;exact zw ⟨by rw[m.o];decide,by rw[m.o];rfl,z⟩
      .by_cases q4:8<n
       .clear c;go_wp2;go_ret2;exact zw ⟨by rw[m.o];decide,by rw[m.o];rfl,z⟩
       .have q5:0<a:=(by simp[badX]at c;omega);have q6:256<a+n:=(by simp[badX]at c;omega);clear c;go_wp2;go_ret2;exact zw ⟨by rw[m.o];decide,by rw[m.o];rfl,z⟩
   .have aK:0<=a:=(by simp[badX]at c;omega);have a7:a<256:=(by simp[badX]at c;omega);have a9:1<=n:=(by simp[badX]at c;omega);have aJ:n<=8:=(by simp[badX]at c;omega);have aG:0<a->a+n<=256:=(by simp[badX]at c;omega);have F:=za c;clear c;by_cases hq:0<a;all_goals
     have aA:a+n<=512:=(by omega);have aI:¬256<a+n\/¬0<a:=by omega
     first|(have a6:¬256<a+n:=by omega)|skip
     obtain⟨U,aj⟩:∃U:World,U=wr:=⟨_,rfl⟩;subst aj;go_wp2;go_loopw [4,47] (λo i wi=>∃j:Nat,(j:Int)<=n/\i=.int .i64 j/\Hid (wi.ownsRow w 3 1 o (b.length+j) (ints (b++(exp1 (a,n)).take j)))/\Below w w wi/\Hid (wi.heap[U.heap.size]?=some (.cells #[a,n] 232))) (λ_ i _=>(n-intOf i).toNat);case atStart =>refine⟨0,by omega,rfl,?_,z,zH⟩;simp only[xH,yY,va];exact HO.o.alloc _
     case round=>
      obtain⟨j,hj,rfl,q,f,D⟩:=hrel;have d1:wr.cell? (U.heap.size,0)=some (.int .i64 a):=zC D.o;have d2:wr.cell? (U.heap.size,1)=some (.int .i64 n):=zC D.o;by_cases Q:(j:Int)<n
      .by_cases M:a=0
       .have al:(a==0)=true:=(by simpa using M);have Y:=za M;clear M;have t:=(q.o.alloc (.cells #[a] 3)).lt;go_wp2_with (first
         | (at_builtin;refine yw _ rfl _ _ 33 rfl w.heap.size 3 i0 (.int .i64 0) 1 8 intsT HI.o W.o X.o S.o rfl (by decide) _ _ _ rfl (q.o.alloc _) ⟨wr.heap.size,0,none⟩ 1 1 [.int .i64 a] rfl rfl (λj u C=>Ru _ #[a] _ j u C) (λu C=>by simp at C;subst C;rfl) (by unfold maxLen;omega) (by omega) (by have:=f.size;simp;omega) ?_;intro v' w4 s d _))
        have B:Hid (w4.ownsRow w 3 1 v' (b.length+(j+1)) (ints (b++(exp1 (a,n)).take (j+1)))):=(by rw[KW (a,n) j Q];rw[ze Y.o,<-Y.o];have e:ints (b++(List.take j (exp1 (a,n))++[a]))=ints (b++List.take j (exp1 (a,n)))++[.int .i64 a]:=(by simp[ints]);rw[e];exact s);have L:=Cd (f.alloc f.size _) d (by have:=f.size;simp;omega) (λr P=>(t r P).1);have H:=za (NH (q.o.alloc _) d (un D.o _) (by decide));clear s d t;go_wp2;go_roundw
        .exact⟨j+1,by omega,by go_num,B,L,H⟩
        .simp[intOf];omega
       .have al:(a==0)=false:=(by simpa using M);have Y:=za M;clear M;have G:=zW (a+j) (by omega);have an:=za G;clear G;have t:=(q.o.alloc (.cells #[.int .i64 (a+j)] 3)).lt;go_wp2_with (first
         | (at_builtin;refine yw _ rfl _ _ 33 rfl w.heap.size 3 i0 (.int .i64 0) 1 8 intsT HI.o W.o X.o S.o rfl (by decide) _ _ _ rfl (q.o.alloc _) ⟨wr.heap.size,0,none⟩ 1 1 [.int .i64 (a+j)] rfl rfl (λjj u C=>Ru _ #[.int .i64 (a+j)] _ jj u C) (λu C=>by simp at C;subst C;rfl) (by unfold maxLen;omega) (by omega) (by have:=f.size;simp;omega) ?_;intro v' w4 s d _))
        have B:Hid (w4.ownsRow w 3 1 v' (b.length+(j+1)) (ints (b++(exp1 (a,n)).take (j+1)))):=(by rw[KW (a,n) j Q];rw[zb Y.o];have e:ints (b++(List.take j (exp1 (a,n))++[(a+j)]))=ints (b++List.take j (exp1 (a,n)))++[.int .i64 (a+j)]:=(by simp[ints]);rw[e];exact s);have L:=Cd (f.alloc f.size _) d (by have:=f.size;simp;omega) (λr P=>(t r P).1);have H:=za (NH (q.o.alloc _) d (un D.o _) (by decide));clear s d t;go_wp2;go_roundw
        .exact⟨j+1,by omega,by go_num,B,L,H⟩
        .simp[intOf];omega
      .obtain⟨q2,ai,ag,_⟩:=rU q.o;subst ag;have I:(exp1 (a,n)).length=j:=(by simp[exp1];omega);have ac:Hid ((exp1 (a,n)).take j=exp1 (a,n)):=(by rw[<-I];exact xN);have E:=za I;clear I;by_cases h8:8<b.length+j
       .have m:Hid ((ptsR l []).2=2):=(by rw[HS.o,zb F.o,ze (by rw[E.o];exact h8)];exact rfl);go_wp2;go_ret2;exact zw ⟨by rw[m.o];decide,by rw[m.o];rfl,f⟩
       .have m:Hid (ptsR (l.drop (k+1)) (b++exp1 (a,n))=ptsR l []):=(by rw[HS.o,zb F.o,zb (by rw[E.o];exact h8)];exact rfl);have B:Hid (wr.ownsRow w 3 1 (q2,(b.length+j),ai) (b++exp1 (a,n)).length (ints (b++exp1 (a,n)))):=(by have:=q.o;rw[ac.o]at this;rw[zl,E.o];exact this);have J:(b++exp1 (a,n)).length<=8:=(by rw[zl,E.o];omega);go_wp2;go_roundw
        .exact⟨k+1,b++exp1 (a,n),by omega,by go_num,J,m,B,f⟩
        .simp[intOf];omega
  .have m:Hid (ptsR l []=(b,0)):=(by rw[<-HR.o,yG (by rw[<-HN.o];omega)];exact rfl);go_wp2;go_ret2;refine zu ⟨by rw[m.o],_,rfl,?_,Z⟩;rw[m.o];exact HO.o
def rN : List Int->List (Int×Int)
 | a::n::r=>if 0<n then (a,n)::rN r else []
 | _=>[]
theorem YQ (a:List Int) (k) (h):rN (a.drop (2*k))=if 0<a[2*k+1] then (a[2*k],a[2*k+1])::rN (a.drop (2*(k+1))) else []:=by rw[yR (show 2*k<a.length by omega),yR h,rN];rfl
def kR (bs:List Int):List Int×Int:=ptsR (rN bs) []
def eI (bs:List Int):Prop:=bs.length=16/\(kR bs).2=0/\qK (ofE (kR bs).1)=bs
theorem Ic {x:Int×Int} (h:badX x=false):∀p,p∈exp1 x->0<=p/\p<=255:=by intro p a;simp only[exp1,yd,xy]at a;obtain⟨i,b,rfl⟩:=a;simp[badX]at h;split<;>omega
theorem qq : ∀(l) (acc),acc.length<=8->(∀p,p∈acc->0<=p/\p<=255)->(ptsR l acc).2=0->(ptsR l acc).1.length<=8/\∀p,p∈(ptsR l acc).1->0<=p/\p<=255
 | [],acc,d,c,_=>⟨d,c⟩
 | x::r,acc,d,c,a=>by
  unfold ptsR at a |-;split at a
  .simp at a
  .rename_i e;rw[zb e];split at a
   .simp at a
   .rename_i f;rw[zb f];refine qq r (acc++exp1 x) (by simp at *;omega) (λp b=>?_) a;rcases yN.1 b with b|b
    .exact c p b
    .exact Ic (by simpa using e) p b
theorem Ha {l:List Int} (d:l.length<=8) (c:∀p,p∈l->0<=p/\p<=255):mT l=0:=by unfold mT;rw[zb (by omega),zb];intro h;obtain⟨p,a,b⟩:=xO.1 h;have:=c p a;simp[badP]at b;omega
theorem oZ {bs:List Int} (h:(kR bs).2=0):mT (kR bs).1=0:=by have:=qq (rN bs) [] (by simp) (by simp) h;exact Ha this.1 this.2
theorem fN (ns):(tu ns).data.toList=ns.map λn=>UInt8.ofNat n.toNat:=by
 have b:∀(l:List Int) (r:ByteArray),(l.foldl (λr n=>r.push (UInt8.ofNat n.toNat)) r).data.toList=r.data.toList++l.map λn=>UInt8.ofNat n.toNat:=by
  intro l
  induction l with
  | nil=>intro r;simp
  | cons a l c=>intro r;rw[ww,c];simp[ByteArray.push]
 simpa[tu]using b ns ByteArray.empty
theorem NI {a b:List Int} (k:∀x,x∈a->0<=x/\x<=255) (l:∀x,x∈b->0<=x/\x<=255) (h:tu a=tu b):a=b:=by
 have g:a.map (λn=>UInt8.ofNat n.toNat)=b.map λn=>UInt8.ofNat n.toNat:=by rw[<-fN,<-fN,h]
 have c:∀(a b:List Int),(∀x,x∈a->0<=x/\x<=255)->(∀x,x∈b->0<=x/\x<=255)->a.map (λn=>UInt8.ofNat n.toNat)=b.map (λn=>UInt8.ofNat n.toNat)->a=b:=by
  intro a
  induction a with
  | nil=>intro b _ _ h;cases b<;>simp_all
  | cons x a f=>
   intro b k l h;cases b with
   | nil=>simp at h
   | cons y b=>
    simp only[yB,uH]at h;have j:=k x (by simp);have i:=l y (by simp);have e:x=y:=(by have:=zQ UInt8.toNat h.1;simp only[UInt8.toNat_ofNat']at this;omega);rw[e,f b (λz d=>k z (by simp[d])) (λz d=>l z (by simp[d])) h.2]
 exact c a b k l g
def ofQ : List (Int×Int)->Int->Int
 | [],_=> -1
 | x::l,u=>if x.1=u then x.2 else ofQ l u
theorem Gm (l:List (Int×Int)) (u) (k) (hk):ofQ (l.drop k) u=if l[k].1=u then l[k].2 else ofQ (l.drop (k+1)) u:=by rw[yR hk];rfl
theorem SE (l) (k) (hk):(qP l)[k*2]?=some (.int .i64 l[k].1)/\(qP l)[k*2+1]?=some (.int .i64 l[k].2):=by
 have e:l=l.take k++(l[k]::l.drop (k+1)):=by rw[List.getElem_cons_drop,xr]
 have a:(qP (l.take k)).length=k*2:=by rw[rG,Ni];omega
 have b:qP l=qP (l.take k)++(.int .i64 l[k].1::.int .i64 l[k].2::qP (l.drop (k+1))):=by
  conv=>lhs;rw[e]
  rw[uE];rfl
 rw[b];constructor
 .rw[zx (by omega),a,vQ];rfl
 .rw[zx (by omega),a,show k*2+1-k*2=1 by omega];rfl
theorem P9 (h:uq w v 2 l.length (qP l)):∃a c,v=.slice a l.length c/\(0<l.length->∃g o,a=some ⟨g,o,none⟩/\g<w.heap.size/\∀k (hk),w.cell? ⟨g,o+k*2,none⟩=some (.int .i64 l[k].1)/\w.cell? ⟨g,o+k*2+1,none⟩=some (.int .i64 l[k].2)):=by
 obtain⟨_,⟨d,a,c,rfl⟩|⟨g,o,c,rfl,b⟩⟩:=h
 .exact⟨a,c,by rw[d],λh=>by omega⟩
 .refine⟨_,c,rfl,λe=>⟨g,o,rfl,?_,λk hk=>?_⟩⟩
  .exact zy (b 0 _ (SE l 0 e).1)
  .exact⟨b _ _ (SE l k hk).1,by rw[yp];exact b _ _ (SE l k hk).2⟩
theorem of_any (v) (l) (u) (w) (h:uq w v 2 l.length (qP l)) (L:l.length<=1000000):
 Calls prog 180 #[v,(u:Int)] w (κ w (ofQ l u:Int)):=by
 obtain⟨a,c,E,D⟩:=P9 h;obtain⟨n,z⟩:=zA l.length;rw[<-z.o]at E L;subst E;have m:=za D;clear D h;go_enter func180,ntmps180;go_wp2;go_loopw [9] (λi wr=>∃k:Nat,k<=n/\i=.int .i64 k/\Hid (ofQ l u=ofQ (l.drop k) u)/\Below w w wr) (λi _=>n-(intOf i).toNat)
 .exact⟨0,by omega,rfl,rfl,zB⟩
 .obtain⟨k,I,rfl,t,f⟩:=hrel;by_cases j:k<n
  .have d:k<l.length:=(by rw[<-z.o];exact j);have A:=za (Gm l u k d);obtain⟨g,o,rfl,C,s⟩:=m.o (by omega);obtain⟨x,B⟩:=zA (l[k].1);obtain⟨y,F⟩:=zA (l[k].2);have K:wr.cell? (g,o+k*2)=some (.int .i64 x):=(by rw[f.cell (p:=⟨g,o+k*2,none⟩) C,(s k d).1,B.o]);have J:wr.cell? (g,o+k*2+1)=some (.int .i64 y):=(by rw[f.cell (p:=⟨g,o+k*2+1,none⟩) C,(s k d).2,F.o]);rw[<-B.o,<-F.o]at A;clear s;by_cases b:x=u
   .subst b;have q:Hid (ofQ l x=y):=(by show _=_;rw[t.o,A.o,ze rfl]);go_wp2;go_ret;rw[q.o];exact⟨rfl,f.alloc f.size _⟩
   .have H:(x==u)=false:=(by simpa using b);have r:Hid (ofQ l u=ofQ (l.drop (k+1)) u):=(by show _=_;rw[t.o,A.o,zb b]);have G:=za b;clear b;go_wp2;go_roundw
    .exact⟨k+1,by omega,by go_num,r,f.alloc f.size _⟩
    .simp[intOf];omega
  .have q:Hid (ofQ l u = -1):=(by show _=_;rw[t.o,vd (by rw[<-z.o];omega)];rfl);go_wp2;go_ret;rw[q.o];exact⟨rfl,f⟩
def okAt (l:List (Int×Int)) (i:Nat):Bool:=decide (0<=(l.getD i (0,0)).1)&&decide ((l.getD i (0,0)).1<=255)&&decide (0<=(l.getD i (0,0)).2)&&decide ((l.getD i (0,0)).2<=256)&&(decide (i=0)||decide ((l.getD (i-1) (0,0)).1<(l.getD i (0,0)).1))
def okQ (l:List (Int×Int)):Bool:=(List.range l.length).all (okAt l)
def ZQ (l:List (Int×Int)):Int:=if 20<l.length then 2 else if okQ l=true then 0 else 3
theorem IE (h:∀i,i<l.length->okAt l i=true):okQ l=true:=by unfold okQ;rw[xp];exact λi a=>h i (xy.1 a)
theorem E6 (h:okQ l=true) (i) (a:i<l.length):okAt l i=true:=by unfold okQ at h;rw[xp]at h;exact h i (xy.2 a)
theorem ft (l) (i):okAt l i=true↔(0<=(l.getD i (0,0)).1/\(l.getD i (0,0)).1<=255/\0<=(l.getD i (0,0)).2/\(l.getD i (0,0)).2<=256/\(i=0\/(l.getD (i-1) (0,0)).1<(l.getD i (0,0)).1)):=by
 unfold okAt;simp only[yS,MK,xe];constructor
 .rintro ⟨⟨⟨⟨a,b⟩,c⟩,d⟩,e⟩;exact⟨a,b,c,d,e⟩
 .rintro ⟨a,b,c,d,e⟩;exact⟨⟨⟨⟨a,b⟩,c⟩,d⟩,e⟩
theorem gK (l:List (Int×Int)) (i) (h):l.getD i (0,0)=l[i]:=by simp[h]
theorem QX (v) (l) (w) (h:uq w v 2 l.length (qP l)) (hl:l.length<=1000000):
 Calls prog 129 #[v] w (κ w (ZQ l:Int)):=by
 obtain⟨a,c,Y,V⟩:=P9 h;obtain⟨n,A⟩:=zA l.length;rw[<-A.o]at Y hl;subst Y;have K:=za V;clear V h;by_cases t:20<n
 .have f:Hid (ZQ l=2):=by show _=_;unfold ZQ;rw[<-A.o,ze t]
  go_enter func129,ntmps129
  go_wp2;go_ret;rw[f.o];exact⟨rfl,zB⟩
 .go_enter func129,ntmps129
  go_wp2;go_loopw [10] (λi wr=>∃k:Nat,k<=n/\i=.int .i64 k/\Hid (∀j,j<k->okAt l j=true)/\Below w w wr) (λi _=>n-(intOf i).toNat)
  .exact⟨0,by omega,rfl,λj hj=>by omega,zB⟩
  .obtain⟨k,hk,rfl,W,b⟩:=hrel;by_cases J:k<n
   .have q:k<l.length:=(by rw[<-A.o];exact J);obtain⟨g,o,rfl,H,I⟩:=K.o (by omega);obtain⟨x,T⟩:=zA (l[k].1);obtain⟨y,Z⟩:=zA (l[k].2);have c0:wr.cell? (g,o+k*2)=some (.int .i64 x):=(by rw[b.cell (p:=⟨g,o+k*2,none⟩) H,(I k q).1,T.o]);have c1:wr.cell? (g,o+k*2+1)=some (.int .i64 y):=(by rw[b.cell (p:=⟨g,o+k*2+1,none⟩) H,(I k q).2,Z.o]);have r:Hid (l.getD k (0,0)=(x,y)):=(by show _=_;rw[gK l k q,T.o,Z.o]);have d:Hid (okAt l k=false->ZQ l=3):=λm=>(by unfold ZQ;rw[<-A.o,zb t,zb];intro ho;rw[E6 ho k q]at m;cases m);have ac:=zr H b.size;have S:=za I;clear I;by_cases P:x<0
    .have f:=za (d.o (by
      cases m:okAt l k with
      | false=>rfl
      | true=>exfalso;have:=(ft l k).1 m;rw[r.o]at this;simp only at this;omega))
     go_wp2
     go_quiet (fail)
     go_wp2;go_ret;rw[f.o];exact⟨rfl,below_drewN (b.alloc b.size _) _⟩
    have C:0<=x:=(by omega);have aj:=zJ P;have an:=za P;clear P;by_cases Q:255<x
    .have f:=za (d.o (by
      cases m:okAt l k with
      | false=>rfl
      | true=>exfalso;have:=(ft l k).1 m;rw[r.o]at this;simp only at this;omega))
     go_wp2
     go_quiet (fail)
     go_wp2;go_ret;rw[f.o];exact⟨rfl,below_drewN (b.alloc b.size _) _⟩
    have G:x<=255:=(by omega);have ae:=zJ Q;have ah:=za Q;clear Q;by_cases R:y<0
    .have f:=za (d.o (by
      cases m:okAt l k with
      | false=>rfl
      | true=>exfalso;have:=(ft l k).1 m;rw[r.o]at this;simp only at this;omega))
     go_wp2
     go_quiet (fail)
     go_wp2;go_ret;rw[f.o];exact⟨rfl,below_drewN (b.alloc b.size _) _⟩
    have B:0<=y:=(by omega);have ag:=zJ R;have ar:=za R;clear R;by_cases M:256<y
    .have f:=za (d.o (by
      cases m:okAt l k with
      | false=>rfl
      | true=>exfalso;have:=(ft l k).1 m;rw[r.o]at this;simp only at this;omega))
     go_wp2
     go_quiet (fail)
     go_wp2;go_ret;rw[f.o];exact⟨rfl,below_drewN (b.alloc b.size _) _⟩
    have F:y<=256:=(by omega);have ap:=zJ M;have aa:=za M;clear M;by_cases D:k=0
    .subst D;have ao:wr.cell? (g,o)=some (.int .i64 x):=(by simpa using c0);have am:wr.cell? (g,o+1)=some (.int .i64 y):=(by simpa using c1);have s:Hid (∀j,j<0+1->okAt l j=true):=λj hj=>(by obtain rfl:j=0:=(by omega);rw[ft,r.o];exact⟨C,G,B,F,zu rfl⟩);go_wp2
     go_quiet (fail)
     go_wp2;go_roundw
     .exact⟨0+1,by omega,by go_num,s,below_drewN (b.alloc b.size _) _⟩
     .simp[intOf];omega
    .obtain⟨j,rfl⟩:∃j,k=j+1:=⟨k-1,by omega⟩;obtain⟨z,U⟩:=zA ((l[j]' (by omega)).1);have cz:wr.cell? ⟨g,o+j*2,none⟩=some (.int .i64 z):=(by rw[b.cell (p:=⟨g,o+j*2,none⟩) H,(S.o j (by omega)).1,U.o]);have E:Hid ((l.getD j (0,0)).1=z):=(by show _=_;rw[gK l j (by omega),U.o]);have ab:IntKind.i64.wrap ((j+1)-1)=j:=(by rw[zM _ (by omega)];omega);have O:0<(j:Int)+1:=(by omega);have ad:=zX O;have av:j+1-1=(j:Int):=(by omega);have ak:j<(n:Int):=(by omega);clear D;by_cases u:z<x
     .have N:decide (x<=z)=false:=zJ (by omega);have s:Hid (∀i,i<j+1+1->okAt l i=true):=λi X=>by
       by_cases e:i=j+1
       .subst e;rw[ft,r.o];refine⟨C,G,B,F,zw ?_⟩;rw[qg,E.o];exact u
       .exact W.o i (by omega)
      go_wp2
      go_quiet (fail)
      go_wp2;go_roundw
      .exact⟨j+1+1,by omega,by go_num,s,below_drewN (b.alloc b.size _) _⟩
      .simp[intOf];omega
     .have L:x<=z:=(by omega);have N:=zX L;have f:=za (d.o (by
       cases m:okAt l (j+1) with
       | false=>rfl
       | true=>
        exfalso;have:=(ft l (j+1)).1 m;rw[r.o,qg,E.o]at this;simp only at this;omega))
      have af:=za u;clear u;go_wp2
      go_quiet (fail)
      go_wp2;go_ret;rw[f.o];exact⟨rfl,below_drewN (b.alloc b.size _) _⟩
   .have f:Hid (ZQ l=0):=(by show _=_;unfold ZQ;rw[<-A.o,zb t,ze (IE λi X=>W.o i (by rw[<-A.o]at X;omega))]);go_wp2;go_ret;rw[f.o];exact⟨rfl,b⟩
def mayQ (l:List (Int×Int)) (u has more:Int):Int:=if 0<more/\ofQ l u≠-1/\ofQ l u<has+more then 16 else 0
theorem JL (v) (l) (u has more) (w) (h:uq w v 2 l.length (qP l)) (x:l.length<=1000000) (y:0<=has) (z:has<=256) (A: -256<=more) (B:more<=256):
 Calls prog 139 #[v,(u:Int),(has:Int),(more:Int)] w (κ w (mayQ l u has more:Int)):=by
 obtain⟨q,j⟩:=zA (ofQ l u);have f:Hid (∀W,Below w w W->Calls prog 180 #[v,u] W (κ W q)):=λW r=>by rw[j.o];exact of_any v l u W (uq.below h r) x
 clear h;by_cases m:0<more
 .by_cases d:q = -1
  .have i:Hid (mayQ l u has more=0):=(by show _=_;unfold mayQ;rw[zb];rintro ⟨_,b,_⟩;exact b (by rw[<-j.o];exact d));subst d;go_enter func139,ntmps139;go_wp2_with fail
   refine (f.o _ zB).mono ?_;rintro e k ⟨rfl,c⟩;go_wp2;go_ret;rw[i.o];exact⟨rfl,c⟩
  .have s:(q==-1)=false:=(by simpa using d);have t:(q != -1)=true:=(by simpa using d);by_cases g:q<has+more
   .have i:Hid (mayQ l u has more=16):=(by show _=_;unfold mayQ;rw[<-j.o,ze ⟨m,d,g⟩]);have p:=za d;clear d;go_enter func139,ntmps139;go_wp2_with fail
    refine (f.o _ zB).mono ?_;rintro e k ⟨rfl,c⟩;go_wp2;go_ret;rw[i.o];exact⟨rfl,c⟩
   .have i:Hid (mayQ l u has more=0):=(by show _=_;unfold mayQ;rw[<-j.o,zb];rintro ⟨_,_,b⟩;exact g b);have p:=za d;have n:has+more<=q:=(by omega);clear d g;go_enter func139,ntmps139;go_wp2_with fail
    refine (f.o _ zB).mono ?_;rintro e k ⟨rfl,c⟩;go_wp2;go_ret;rw[i.o];exact⟨rfl,c⟩
 .have i:Hid (mayQ l u has more=0):=by show _=_;unfold mayQ;rw[zb];rintro ⟨a,_⟩;exact m a
  have n:more<=0:=by omega
  clear m;go_enter func139,ntmps139;go_wp2_with fail
  refine (f.o _ zB).mono ?_;rintro e k ⟨rfl,c⟩;go_wp2;go_ret;rw[i.o];exact⟨rfl,c⟩
def fnV (gc:Nat):Value:=.func (.func 132) #[] #[(gc,())]
theorem X9 (x y u) (gc) (w) (b:w.cell? ⟨gc,0,none⟩=some (.int .i64 u)):
 Calls prog 132 #[.agg #[(x:Int),(y:Int)],.pointer (some ⟨gc,0,none⟩)] w (κ w (.bool (x==u))):=by
 have a:gc<w.heap.size:=zy b;go_enter func132,ntmps132;go_wp2;go_ret;exact⟨rfl,zB.alloc zL _⟩
def idxQ : List (Int×Int)->Int->Option Nat
 | [],_=>none
 | x::l,u=>if x.1=u then some 0 else (idxQ l u).map (· + 1)
theorem M8:∀{k} (hk:k<l.length),(∀j (hj:j<k),(l[j]' (by omega)).1≠u)->l[k].1=u->idxQ l u=some k:=by
 induction l with
 | nil=>intro k hk;simp at hk
 | cons x l c=>
  intro k hk b a;cases k with
  | zero=>show (if x.1=u then some 0 else _)=_;rw[ze (show x.1=u from a)]
  | succ k=>
   show (if x.1=u then some 0 else _)=_;rw[zb (show ¬x.1=u from b 0 (by omega)),c (k:=k) (by simpa using hk) (λj hj=>by have:=b (j+1) (by omega);simpa using this) (by simpa using a)];rfl
theorem KP:(∀j (hj:j<l.length),l[j].1≠u)->idxQ l u=none:=by
 induction l with
 | nil=>intro _;rfl
 | cons x l b=>
  intro a;show (if x.1=u then some 0 else _)=_;rw[zb (show ¬x.1=u from a 0 (by simp)),b (λj hj=>by have:=a (j+1) (by simpa using hj);simpa using this)];rfl
def idxI (l:List (Int×Int)) (u:Int):Int:=match idxQ l u with|some k=>k|none=> -1
theorem gC (v:Value) (l:List (Int×Int)) (u:Int) (S:Nat) (w:World) (h:uq w v 2 l.length (qP l)) (T:l.length<=1000000) (R:w.cell? (S,0)=some (.int .i64 u)):
 Calls prog 164 #[v,fnV S] w (κ w (idxI l u:Int)):=by
 obtain⟨a,c,J,I⟩:=P9 h;obtain⟨n,F⟩:=zA l.length;rw[<-F.o]at J T;subst J;have z:=za I;have D:Hid (∀(x y:Int) (W:World),Below w w W->Calls prog 132 #[.agg #[x,y],(S,())] W (κ W (.bool (x==u)))):=λx y W M=>
  X9 x y u S W ((M.cell (p:=⟨S,0,none⟩) (zy R)).trans R)
 clear I h R;unfold fnV;go_enter func164,ntmps164;go_wp2;go_loopw [8] (λi wr=>∃k:Nat,k<=n/\i=.int .i64 k/\Hid (∀j (f:j<l.length),j<k->l[j].1≠u)/\Below w w wr) (λi _=>n-(intOf i).toNat)
 .exact⟨0,by omega,rfl,λj _ f=>by omega,zB⟩
 .obtain⟨k,O,rfl,E,r⟩:=hrel;by_cases t:k<n
  .have m:k<l.length:=(by rw[<-F.o];exact t);obtain⟨g,o,rfl,H,G⟩:=z.o (by omega);obtain⟨x,A⟩:=zA (l[k].1);obtain⟨y,N⟩:=zA (l[k].2);have P:wr.cell? (g,o+k*2)=some (.int .i64 x):=(by rw[r.cell (p:=⟨g,o+k*2,none⟩) H,(G k m).1,A.o]);have Q:wr.cell? (g,o+k*2+1)=some (.int .i64 y):=(by rw[r.cell (p:=⟨g,o+k*2+1,none⟩) H,(G k m).2,N.o]);clear G;go_wp2_with fail
   refine (D.o x y _ r).mono ?_;by_cases b:x=u
   .have B:Hid (idxI l u=(k:Int)):=(by show _=_;unfold idxI;rw[M8 m (λj f=>E.o j (by omega) f) (by rw[<-A.o];exact b)]);have s:(x==u)=true:=(by simpa using b);rw[s];clear b s;rintro e K ⟨rfl,d⟩;have q:=zi r d;clear d;go_wp2;go_ret;rw[B.o];exact⟨rfl,q⟩
   .have s:(x==u)=false:=(by simpa using b);have C:Hid (∀j (f:j<l.length),j<k+1->l[j].1≠u):=λj f L=>by
     by_cases e:j=k
     .subst e;rw[<-A.o];exact b
     .exact E.o j f (by omega)
    rw[s];clear b s;rintro e K ⟨rfl,d⟩;have q:=zi r d;clear d;go_wp2;go_roundw
    .exact⟨k+1,by omega,by go_num,C,q⟩
    .simp[intOf];omega
  .have B:Hid (idxI l u = -1):=(by show _=_;unfold idxI;rw[KP λj f=>E.o j f (by rw[<-F.o]at f;omega)]);go_wp2;go_ret;rw[B.o];exact⟨rfl,r⟩
section
variable {P : Program}
theorem Qe (w) (t e) (l:P.underlying t=some (.slice e)) (j:∀w,(zeroValue e).run P w=.ok (.agg #[(),()]) w)
 (g o n c) (cur) (ct) (q:0<n) (p:w.heap[g]?=some (.cells cur ct)) (k:o+n*2<=cur.size):
 ∃zs,zs.length=n*2/\∀ty,(Builtin.clear_ #[t] ty #[.slice (some ⟨g,o,none⟩) n c]).run P w=.ok (.tuple #[]) (w.setRow g (cur.toList.take o++zs++cur.toList.drop (o+zs.length)).toArray):=by
 have a:((Builtin.zeroCells #[(),()] n).toList).length=n*2:=by rw[ye,sJ];rfl
 have d:∀v∈(Builtin.zeroCells #[(),()] n).toList,v.oneCell'=true:=by intro v j;simp only[Builtin.zeroCells,Array.toList_map,yd]at j;obtain⟨i,_,rfl⟩:=j;have f:i%2<2:=qf _ (by omega);show (#[Value.int .i64 0,Value.int .i64 0][i%2]!).oneCell'=true;rcases (by omega:i%2=0\/i%2=1) with h|h<;>rw[h]<;>rfl
 refine⟨_,a,λty=>?_⟩;have b:=wS P g o ct (Builtin.zeroCells #[(),()] n).toList 0 cur w p (by rw[a];omega) d;simp only[va]at b;obtain⟨m,rfl⟩:∃m,n=m+1:=⟨n-1,by omega⟩;simp[Builtin.clear_,wP l,j,Value.cells,b]
end
theorem CE (L:List Value) (p) (x y) (h:p+1<L.length):((L.set p x).set (p+1) y).take (p+2)=L.take p++[x,y]/\∀q,p+2<=q->((L.set p x).set (p+1) y)[q]?=L[q]? :=by
 constructor
 .apply wV;intro q;rw[zI];have a:(L.take p).length=p:=by rw[Ni];omega
  by_cases c:q<p
  .rw[ze (by omega),zV (by omega),zI,ze c,Ce (by omega),Ce (by omega)]
  .rw[zx (by omega),a];by_cases b:q=p
   .subst b;rw[ze (by omega),Ce (by omega),ul (by omega),vQ];rfl
   .by_cases d:q=p+1
    .subst d;rw[ze (by omega),ul (by rw[xT];omega),show p+1-p=1 by omega];rfl
    .rw[zb (by omega),yW (by simp;omega)]
 .intro q e;rw[Ce (by omega),Ce (by omega)]
def othQ (l:List (Int×Int)) (u:Int):List (Int×Int):=l.filter λx=> !(x.1==u)
theorem Ur (l:List (Int×Int)) (u) (k) (hk):othQ (l.take (k+1)) u=othQ (l.take k) u++(if (l[k].1==u)=true then [] else [l[k]]):=by
 unfold othQ;rw[<-zU hk,qh]
 congr 1
 cases h:(l[k].1==u)<;>simp[h]
theorem Wq:(∀j (hj:j<l.length),l[j].1≠u)->othQ l u=l:=λh=>by unfold othQ;rw[uL];intro x a;obtain⟨j,hj,rfl⟩:=Mu.1 a;have:=h j hj;simpa using this
theorem Ds (l) (u):(idxQ l u=none/\∀j (hj:j<l.length),l[j].1≠u)\/(∃k,∃hk,idxQ l u=some k/\l[k].1=u/\∀j (hj),j<k->l[j].1≠u):=by
 induction l with
 | nil=>exact zu ⟨rfl,λj hj=>by simp at hj⟩
 | cons x l d=>
  by_cases a:x.1=u
  .exact zw ⟨0,by simp,by show (if x.1=u then some 0 else _)=_;rw[ze a],a,λj _ hj=>by omega⟩
  .rcases d with⟨c,b⟩|⟨k,hk,c,b,f⟩
   .refine zu ⟨by show (if x.1=u then some 0 else _)=_;rw[zb a,c];rfl,λj hj=>?_⟩;cases j with
    | zero=>exact a
    | succ j=>simpa using b j (by simpa using hj)
   .refine zw ⟨k+1,by simpa using hk,by show (if x.1=u then some 0 else _)=_;rw[zb a,c];rfl,by simpa using b,λj hj e=>?_⟩;cases j with
    | zero=>exact a
    | succ j=>simpa using f j (by simpa using hj) (by omega)
theorem rowZ: ∀w,(zeroValue 193).run prog w=.ok (.agg #[(),()]) w:=λ_=>by kernel_rfl
theorem tG (h:Below B a w) (c:B<=g) (cs:Array Value):Below B a (w.setRow g cs):=
 ⟨h.os,h.tape,h.output,by have:=h.size;simp only[World.setRow,py];exact this,λk b=>by rw[yO _ _ _ _ (by omega)];exact h.block k b⟩
theorem VT (B g cap:Nat) (ab:Array Value) (l:List (Int×Int)) (u:Int) (gc n k0:Nat) (w:World) (ae:B<=g) (ar:g<w.heap.size) (au:B<=w.heap.size) (av:gc<B) (am:w.cell? (gc,0)=some (.int .i64 u))
 (HN:Hid (n=l.length)) (hl:n<=1000000) (hn:n<=cap) (an:cap<=maxLen) (HG:Hid (w.heap[g]?=some (.cells ab 193))) (HS:Hid (ab.size=cap*2)) (HT:Hid (ab.toList.take (n*2)=qP l))
 (ax:k0<n) (HI:Hid (idxQ l u=some k0)) (HE:Hid (∀j (hj:j<l.length),j<k0->l[j].1≠u)) (HU:Hid (∀(h:k0<l.length),l[k0].1=u)):
 Calls prog 130 #[(g,0,n,cap),fnV gc] w (jt B (othQ l u) w):=by
 have _:=ar;unfold maxLen at an;have ac:Hid (∀(x y:Int) (W:World),Below B w W->Calls prog 132 #[.agg #[x,y],(gc,())] W (κ W (.bool (x==u)))):=λx y W V=>
  X9 x y u gc W ((V.cell (p:=⟨gc,0,none⟩) av).trans am)
 have L:Hid (∀m (C:m<l.length),ab[m*2]?=some (.int .i64 l[m].1)/\ab[m*2+1]?=some (.int .i64 l[m].2)):=λm C=>by have h1:=SE l m C;rw[<-HT.o,zI,zI,ze (by rw[HN.o];omega),ze (by rw[HN.o];omega)]at h1;exact⟨by simpa using h1.1,by simpa using h1.2⟩
 have F:uq w (g,0,n,cap) 2 l.length (qP l):=by refine⟨rG l,zw ⟨g,0,cap,by rw[HN.o],λj x hj=>?_⟩⟩;rw[yF,zC HG.o];have t:=(zG.1 hj).1;rw[rG]at t;rw[<-HT.o,zI,ze (by rw[HN.o];omega)]at hj;simpa using hj
 have M:=gC _ l u gc w F (by rw[<-HN.o];exact hl) am;have ai:Hid (idxI l u=(k0:Int)):=by show _=_;unfold idxI;rw[HI.o]
 rw[ai.o]at M;have G:=za M;clear M F am;unfold fnV;unfold fnV at G;go_enter func130,ntmps130;go_wp2_with fail
 refine G.o.mono ?_;rintro e w1 ⟨rfl,E⟩;have ap:Hid (w1.heap[g]?=some (.cells ab 193)):=xV E HG.o;have aa:Below B w w1:=E.mono au;have ao:w.heap.size<=w1.heap.size:=E.size;clear E;have a8:((k0:Int)==-1)=false:=by rw[yU];omega
 go_wp2;go_loopw [5,6] (λa b wr=>∃i j:Nat,a=.int .i64 i/\b=.int .i64 j/\i<j/\j<=n/\Hid (i=(othQ (l.take j) u).length)/\Hid (∃c:Array Value,wr.heap[g]?=some (.cells c 193)/\c.size=cap*2/\c.toList.take (i*2)=qP (othQ (l.take j) u)/\∀m (C:m<l.length),j<=m->c[m*2]?=some (.int .i64 l[m].1)/\c[m*2+1]?=some (.int .i64 l[m].2))/\Below B w wr/\w.heap.size<=wr.heap.size) (λ_ b _=>n-(intOf b).toNat);case atStart=>
  have U:k0<l.length:=by rw[<-HN.o];exact ax
  have Y:othQ (l.take (k0+1)) u=l.take k0:=by rw[Ur l u k0 U,HU.o U,Wq λj hj=>by have aq:j<k0:=(by rw[Ni]at hj;omega);rw[po];exact HE.o j (by omega) aq];simp
  refine⟨k0,k0+1,rfl,by go_num,by omega,by omega,?_,⟨ab,ap.o,HS.o,?_,λm C _=>L.o m C⟩,aa,ao⟩
  .rw[Y,Ni];show k0=_;omega
  .rw[Y];have:ab.toList.take (k0*2)=(qP l).take (k0*2):=(by rw[<-HT.o,we];congr 1;omega);rw[this];have e2:l=l.take k0++l.drop k0:=(xr k0 l).symm
   conv=>lhs;rw[e2,uE]
   rw[yC (by rw[rG,Ni];omega),zo (by rw[rG,Ni];omega)]
 case round=>
  obtain⟨i,j,rfl,rfl,a3,hj,v,HC,Z,hz⟩:=hrel;obtain⟨c,hg,hs,ht,hc⟩:=HC.o;have r:=za hg;have s:=za hs;have A:=za ht;have D:=za hc;clear hg hs ht hc HC;by_cases af:j<n
  .have t:j<l.length:=(by rw[<-HN.o];exact af);obtain⟨x,Hx⟩:=zA (l[j].1);obtain⟨y,Hy⟩:=zA (l[j].2);have a9:g<wr.heap.size:=xB r.o;have c0:wr.cell? (g,j*2)=some (.int .i64 x):=(by rw[zC r.o,(D.o j t zL).1,Hx.o]);have c1:wr.cell? (g,j*2+1)=some (.int .i64 y):=(by rw[zC r.o,(D.o j t zL).2,Hy.o]);go_wp2_with fail
   refine (ac.o x y _ (Z.alloc (by omega) _)).mono ?_;have f:=za (Ur l u j t);rw[<-Hx.o]at f;have Q:Hid ((wr.alloc (.cells #[x,y] 193)).heap[g]?=some (.cells c 193)):=un r.o _;by_cases z:x=u
   .have K:(x==u)=true:=(by simpa using z);rw[K,ze rfl,yY]at f;rw[K];clear z K;rintro e q ⟨rfl,d⟩;have k:Hid (q.heap[g]?=some (.cells c 193)):=xV d Q.o;have J:Below B w q:=(Z.alloc (by omega) _).trans (d.mono (by simp;omega));have I:w.heap.size<=q.heap.size:=(by have:=d.size;simp at this;omega);clear d;go_wp2;go_roundw
    .exact⟨i,j+1,rfl,by go_num,by omega,by omega,by show i=_;rw[f.o];exact v.o,⟨c,k.o,s.o,by rw[f.o];exact A.o,λm C ad=>D.o m C (by omega)⟩,J,I⟩
    .simp[intOf];omega
   .have K:(x==u)=false:=(by simpa using z);rw[K,zb (by simp)]at f;rw[K];clear z K;rintro e q ⟨rfl,d⟩;have k:Hid (q.heap[g]?=some (.cells c 193)):=xV d Q.o;have S:Hid (q.heap[wr.heap.size]?=some (.cells #[x,y] 193)):=xV d (zO wr _);have J:Below B w q:=(Z.alloc (by omega) _).trans (d.mono (by simp;omega));have I:w.heap.size<=q.heap.size:=(by have:=d.size;simp at this;omega);clear d;have H:i*2+1<c.size:=(by rw[s.o];omega);obtain⟨v0,X⟩:∃v0,c[i*2]?=some v0:=⟨_,xx (by omega)⟩;obtain⟨v1,R⟩:∃v1,c[i*2+1]?=some v1:=⟨_,xx H⟩;have d0:q.cell? (g,i*2)=some v0:=(by rw[zC k.o];exact X);have d1:q.cell? (g,i*2+1)=some v1:=(by rw[zC k.o];exact R);have f0:q.frozen? (g,i*2)=false:=zF k.o;have f1:q.frozen? (g,i*2+1)=false:=zF k.o;have r0:q.cell? (wr.heap.size,0)=some (.int .i64 x):=(by rw[zC S.o];rfl);have r1:q.cell? (wr.heap.size,1)=some (.int .i64 y):=(by rw[zC S.o];rfl);have aA:(i:Int)<(n:Int):=(by omega);have a6:(0:Int)<=(i:Int):=(by omega);have ak:=za H;clear X R H;go_wp2;go_roundw;case rel=>
     have h2:=CE c.toList (i*2) (.int .i64 x) (.int .i64 y) (by rw[ye];exact ak.o);refine⟨i+1,j+1,by go_num,by go_num,by omega,by omega,?_,⟨(c.setIfInBounds (i*2) (.int .i64 x)).setIfInBounds (i*2+1) (.int .i64 y),?_,?_,?_,?_⟩,?_,?_⟩
     .show i+1=_;rw[f.o,zl,<-v.o];rfl
     .exact zT _ _ _ _ _ _ (zT _ _ _ _ _ _ k.o)
     .rw[xL,xL];exact s.o
     .rw[Cf,Cf,show (i+1)*2=i*2+2 by omega,h2.1,A.o,f.o,uE,Hx.o,Hy.o];rfl
     .intro m C ad;have e0:=h2.2 (m*2) (by omega);have Y:=h2.2 (m*2+1) (by omega);rw[<-zK,<-zK,Cf,Cf,e0,Y,zK,zK];exact D.o m C (by omega)
     .exact (J.setCell ae _).setCell ae _
     .simpa[World.setCell]using I
    case measure=>simp[intOf];omega
  .obtain rfl:j=n:=(by omega);obtain⟨zs,O,T⟩:=Qe (P:=prog) wr 87 193 rowT rowZ g (i*2) (j-i) (cap-i) c 193 (by omega) r.o (by rw[s.o];omega);have a4:i≠cap:=(by omega);have ag:=za O;obtain⟨W,V⟩:∃W,W=wr.setRow g (c.toList.take (i*2)++zs++c.toList.drop (i*2+zs.length)).toArray:=⟨_,rfl⟩;rw[<-V]at T;have N:=za V;clear O V;go_wp2;go_ret;have ah:othQ (l.take j) u=othQ l u:=(by rw[zo (by rw[<-HN.o];omega)]);rw[ah]at A v;refine⟨_,rfl,?_,?_,?_⟩
   .rw[<-v.o];refine⟨by rw[rG,<-v.o],zw ⟨g,cap,_,rfl,ae,by rw[N.o];exact ya _ _ _ _ _ _ r.o,by omega,by unfold maxLen;omega,?_,?_⟩⟩
    .simp[ag.o,s.o];omega
    .have a2:(c.toList.take (i*2)).length=i*2:=(by rw[Ni,ye,s.o];omega);rw[zR,yC (by omega),zo (by omega)];exact A.o
   .rw[N.o];exact tG Z ae _
   .rw[N.o];simpa[World.setRow]using hz
theorem VU (B:Nat) (a:Option Addr) (n c:Nat) (l:List (Int×Int)) (u:Int) (s:Nat) (w:World) (t:B<=w.heap.size) (r:w.cell? (s,0)=some (.int .i64 u)) (v:n=l.length) (z:n<=1000000)
 (q:w.ownsRow B 193 2 (a,n,c) l.length (qP l)) (x:Hid (idxQ l u=none)) (y:Hid (othQ l u=l)):
 Calls prog 130 #[(a,n,c),fnV s] w (jt B (othQ l u) w):=by
 have f:=uq.of_owns q;have g:=gC _ l u s w f (by omega) r;have m:Hid (idxI l u = -1):=by show _=_;unfold idxI;rw[x.o]
 rw[m.o]at g;have d:=za g;have h:=za q;clear g f r q v;unfold fnV;unfold fnV at d;go_enter func130,ntmps130;go_wp2_with fail
 refine d.o.mono ?_;rintro e i ⟨rfl,b⟩;have j:Below B w i:=b.mono t;have k:w.heap.size<=i.heap.size:=b.size;have p:Hid (i.ownsRow B 193 2 (a,n,c) l.length (qP l)):=tt h.o b;clear b;go_wp2;go_ret;refine⟨_,rfl,?_,j,k⟩;rw[y.o];exact p.o
theorem D8 (B:Nat) (v:Value) (l:List (Int×Int)) (u:Int) (x:Nat) (w:World) (y:B<=w.heap.size) (A:x<B) (z:w.cell? (x,0)=some (.int .i64 u)) (C:l.length<=1000000)
 (t:w.ownsRow B 193 2 v l.length (qP l)):
 Calls prog 130 #[v,fnV x] w (jt B (othQ l u) w):=by
 rcases Ds l u with⟨b,a⟩|⟨k,m,b,a,n⟩
 .obtain⟨q,c,rfl,_⟩:=rU t;exact VU B q _ c l u x w y z rfl C t b (Wq a)
 .obtain⟨f,⟨_,s⟩|⟨g,d,e,rfl,j,h,r,p,o,i⟩⟩:=t
  .omega
  .exact VT B g d e l u x _ k w j (xB h) y A z rfl C r p h o i m b n (λ_=>a)
theorem Xd (B) (v) (l) (x y) (h) (w) (ab:B<=w.heap.size) (hl:l.length<=1000000) (aa:w.ownsRow B 193 2 v l.length (qP l))
 (hh:w.heap[h]?=some (.cells #[.int .i64 x,.int .i64 y] 193)):
 Calls prog 133 #[v,(l.length:Int),.slice (some ⟨h,0,none⟩) 1 1] w (jt B (l++[(x,y)]) w):=by
 obtain⟨N,P,q,A,C⟩:=yX iP;have Q:=za P;have E:=za q;have F:=za A;have z:=za C;clear P q A C;have i:=za aa;have HH:=za hh;clear hh;obtain⟨n,O⟩:=zA l.length;rw[<-O.o]at i hl |-;have p:∀b,v.ownBlock=some b->B<=b/\b<w.heap.size:=λb S=>by have:=aa.lt b S;exact⟨this.1,this.2⟩
 have K:=za p;clear p;have s:∀m H,H.ownsRow B 193 2 m (n+1) (qP l++qP [(x,y)])->w.grownBy H v.ownBlock->jt B (l++[(x,y)]) w (.returned m) H:=λm H U M=>by refine⟨m,rfl,?_,Cd zB M ab λr Y=>(K.o r Y).1,M.size⟩;rw[zl,<-O.o,uE];exact U
 have G:=za s;clear s;have k:∀j u,(qP [(x,y)])[j]?=some u->w.cell? ((⟨h,0,none⟩:Addr).add j)=some u:=λj u hj=>by
  have D:(⟨h,0,none⟩:Addr).add j=⟨h,0+j,none⟩:=by unfold Addr.add;split<;>simp_all
  rw[D,yF,zC HH.o,<-hj,<-zK];rfl
 have t:=za k;clear k;have Z:(v=.slice none 0 0/\n=0)\/∃g c,v=.slice (some ⟨g,0,none⟩) n c/\n<=c/\c<=maxLen:=by
  obtain⟨_,⟨a,b⟩|⟨g,c,W,e,_,_,V,e3,_⟩⟩:=i.o
  .exact zu ⟨a,b⟩
  .exact zw ⟨g,c,e,V,e3⟩
 clear aa;rcases Z with⟨rfl,L⟩|⟨g,c,rfl,X,I⟩
 .subst L;go_enter func133,ntmps133;go_wp2_with (at_builtin;refine yw _ rfl _ _ 87 rfl B 193 N (.agg #[(),()]) 2 16 rowT Q.o E.o F.o z.o rfl (by decide) _ _ _ rfl i.o ⟨h,0,none⟩ 1 1 (qP [(x,y)]) rfl rfl t.o (N2 _) (by unfold maxLen;omega) (by omega) ab ?_;intro m R d f _)
  go_ret;exact G.out _ _ d f
 .unfold maxLen at I;by_cases J:n=c;all_goals
   have T:=za J;go_enter func133,ntmps133;go_wp2_with (at_builtin;refine yw _ rfl _ _ 87 rfl B 193 N (.agg #[(),()]) 2 16 rowT Q.o E.o F.o z.o rfl (by decide) _ _ _ rfl i.o ⟨h,0,none⟩ 1 1 (qP [(x,y)]) rfl rfl t.o (N2 _) (by unfold maxLen;omega) (by omega) ab ?_;intro m R d f _)
   go_ret;exact G.out _ _ d f
theorem rowSz: ∀w,(Go.sizeOf 193).run prog w=.ok 2 w:=λw=>by kernel_rfl
theorem Je (w) (h g o lb cb) (x y) (cur) (a:h≠g) (b:w.heap[h]?=some (.cells #[.int .i64 x,.int .i64 y] 193))
 (c:w.heap[g]?=some (.cells cur 193)) (d:cur.size≠0):
 (callFunc 165 #[.slice (some ⟨h,0,none⟩) 1 1,.slice (some ⟨g,o,none⟩) lb cb]).run prog w=.ok (.value (.bool false)) w:=by
 rw[run_callFunc_extern func165 (by kernel_rfl) (by kernel_rfl) (by kernel_rfl) (e:=Extern.SlicesOverlaps.overlaps #[87,87] #[4]) (by kernel_rfl),
  Lib.run_overlaps_apart w 87 4 193 rowT 2 rowSz ⟨h,0,none⟩ ⟨g,o,none⟩ 1 1 lb cb a 193 193 2 cur.size (by simp[World.shape?,b]) (by simp[World.shape?,c]) d (by simp[World.frozen?,b]) (by simp[World.frozen?,b])]
 rfl
theorem PK (l) (i) (b:i<=l.length):qP (l.drop i)=(qP l).drop (i*2)/\qP (l.take i)=(qP l).take (i*2):=by
 have e:qP l=qP (l.take i)++qP (l.drop i):=by rw[<-uE,xr]
 have a:(qP (l.take i)).length=i*2:=by rw[rG,Ni];omega
 constructor
 .rw[e,<-a,List.drop_left]
 .rw[e,<-a,sP]
theorem oP (B g cap i n:Nat) (cur:Array Value) (l:List (Int×Int)) (x y:Int) (h:Nat) (w:World) (aa:B<=g) (HN:Hid (n=l.length)) (hl:n<=1000000) (ak:i<n) (ah:n+1<=cap) (ae:cap<=maxLen) (af:Hid (h≠g))
 (HG:Hid (w.heap[g]?=some (.cells cur 193))) (HS:Hid (cur.size=cap*2)) (HT:Hid (cur.toList.take (n*2)=qP l)) (HH:Hid (w.heap[h]?=some (.cells #[x,y] 193))):
 Calls prog 133 #[(g,0,n,cap),i,.slice (some ⟨h,0,none⟩) 1 1] w (jt B (l.take i++[(x,y)]++l.drop i) w):=by
 unfold maxLen at ae;have t:∀o H E,(callFunc 165 #[.slice (some ⟨h,0,none⟩) 1 1,.slice (some ⟨g,o,none⟩) H E]).run prog w=.ok (.value (.bool false)) w:=λo H E=>
  Je w h g o H E x y cur af.o HH.o HG.o (by rw[HS.o];omega)
 have M:(i:Int)<(n:Int):=by omega
 have O:((i:Int)==(n:Int))=false:=by rw[yU];omega
 have S:(i==n)=false:=by rw[yU];omega
 have V:decide (i=n)=false:=zJ (by omega);have Q:i≠cap:=by omega
 have K:i+1≠cap:=by omega
 have p1:=zW ((i:Int)+1) (by omega);have W:((i:Int)+1).toNat=i+1:=by omega
 have Y:(0:Int)<=(i:Int)+1:=by omega
 have Z:(i:Int)+1<=(n:Int)+1:=by omega
 have p7:¬cap=i+1:=by omega
 have p8:¬cap=i:=by omega
 have p9:(i:Int)<=(n:Int)+1:=by omega
 have X:¬(cap:Int)<(n:Int)+1:=by omega
 go_enter func133,ntmps133
 go_wp2_with (simp only[t])
 go_still_tail 8,(by kernel_rfl)
 go_wp2_with fail
 obtain⟨a,b⟩:=zA (qP (l.drop i));have f:a.length=(n-i)*2:=by rw[b.o,rG,Nk,HN.o]
 have p:∀(j:Nat) (v:Value),a[j]?=some v->w.drew.cell? ((⟨g,i*2,none⟩:Addr).add j)=some v:=λj v u=>by
  have e:(⟨g,i*2,none⟩:Addr).add j=⟨g,i*2+j,none⟩:=by unfold Addr.add;split<;>simp_all
  have N:=(zG.1 u).1;rw[e,xQ w.drew g (i*2+j) cur 193 (0,0) HG.o];rw[b.o,(PK l i (by rw[<-HN.o];omega)).1,yy,<-HT.o,zI,ze (by omega)]at u;simpa using u
 rw[mt (P:=prog) w.drew 87 87 _ 193 2 g ((i+1)*2) (n-i) (cap-(i+1)) ⟨g,i*2,none⟩ (n+1-i) (cap-i) cur 193 a rowT rowS HG.o (by rw[f];congr 1;show n-i=min (n+1-i) (n-i);omega) p (by rw[f,HS.o];omega) (by rw[b.o];exact N2 _)];obtain⟨c,k⟩:=zA ((cur.toList.take ((i+1)*2)++a++cur.toList.drop ((i+1)*2+a.length)).toArray);rw[<-k.o];have z:Hid ((w.drew.setRow g c).heap[g]?=some (.cells c 193)):=ya w.drew _ _ _ _ _ HG.o;have D:Hid ((w.drew.setRow g c).heap[h]?=some (.cells #[x,y] 193)):=rF (w:=w.drew) HH.o _ _ af.o;have G:Below B w (w.drew.setRow g c):=tG (xW B w).drew aa _;have I:w.heap.size<=(w.drew.setRow g c).heap.size:=by simp[World.setRow]
 have r:c.size=cap*2:=by rw[k.o];simp[f,HS.o];omega
 generalize w.drew.setRow g c=L at *
 have d:∀(j:Nat) (v:Value),(qP [(x,y)])[j]?=some v->L.cell? ((⟨h,0,none⟩:Addr).add j)=some v:=λj v u=>by
  have e:(⟨h,0,none⟩:Addr).add j=⟨h,0+j,none⟩:=by unfold Addr.add;split<;>simp_all
  rw[e,yF,zC D.o,<-u,<-zK];rfl
 have s:=λU=>mt (P:=prog) L 87 87 U 193 2 g (i*2) (n+1-i) (cap-i) ⟨h,0,none⟩ 1 1 c 193 (qP [(x,y)]) rowT rowS z.o (by show 2=min 1 (n+1-i)*2;omega) d (by show i*2+2<=_;rw[r];omega) (N2 _);obtain⟨R,q⟩:=zA ((c.toList.take (i*2)++qP [(x,y)]++c.toList.drop (i*2+(qP [(x,y)]).length)).toArray);rw[<-q.o]at s;have A:=za f;have J:=za r;clear p d f r t;go_wp2;go_ret;refine⟨_,rfl,?_,tG G aa _,by simpa[World.setRow]using I⟩;have m:(l.take i++[(x,y)]++l.drop i).length=n+1:=by simp only[zl,Ni,Nk,yv,xC];have:=HN.o;omega
 rw[m];have C:c.toList.take (i*2)=qP (l.take i):=by
  rw[k.o,(PK l i (by rw[<-HN.o];omega)).2,<-HT.o];show (cur.toList.take ((i+1)*2)++a++_).take (i*2)=_;rw[zR,yC (by rw[Ni,ye,HS.o];omega),we,we]
  congr 1
  omega
 have F:c.toList.drop (i*2+2)=a++cur.toList.drop ((i+1)*2+a.length):=by rw[k.o];show (cur.toList.take ((i+1)*2)++a++_).drop (i*2+2)=_;rw[zR,vC (by rw[Ni,ye,HS.o];omega),yG (by rw[Ni,ye,HS.o];omega),yJ]
 refine⟨by rw[rG,m],zw ⟨g,cap,R,rfl,aa,ya _ _ _ _ _ _ z.o,by omega,by unfold maxLen;omega,?_,?_⟩⟩
 .rw[q.o];simp[J.o,rG];omega
 .rw[q.o];show (c.toList.take (i*2)++qP [(x,y)]++c.toList.drop (i*2+2)).take ((n+1)*2)=_;rw[C,F,uE,uE,<-b.o,<-zR];have T:(qP (l.take i)++qP [(x,y)]++a).length=(n+1)*2:=by rw[zl,zl,rG,rG,A.o,Ni];have:=HN.o;simp only[yv,xC];omega
  rw[yC (by omega),zo (by omega)]
