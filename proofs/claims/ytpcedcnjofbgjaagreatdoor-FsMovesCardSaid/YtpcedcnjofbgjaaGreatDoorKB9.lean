import Derived.Test.YtpcedcnjofbgjaaGreatDoorKB1
set_option maxHeartbeats 0
set_option linter.all false
set_option maxRecDepth 100000
namespace Go.Proofs.YtpcedcnjofbgjaaGreatDoor
open Go.Proofs.Tryz Go.RowKit
variable {F:Nat->Prop} {a:Addr} {gf:Nat} {s:Fs} {w:World}
theorem JY (h:FsAt w gf s F a) (x:∀X∈s.nodes,X.P.length<=8) (user) (y:0<=user/\user<=255):
 Calls prog 57 #[(gf,()),(user:Int)] w (κ w (.tuple #[(nt s.nodes user 32:Int),()])):=by
 obtain⟨r,E,g,d,c⟩:=jM h;obtain⟨u,m,t,rfl,_,_⟩:=iW d c h.len;have i:=za (OX d c h.len x user);obtain⟨q,n⟩:=y;have p:decide (user<0)=false:=zJ (by omega);have j:decide (255<user)=false:=zJ (by omega);have l:¬(user<0):=by omega
 have v:¬(255<user):=by omega
 generalize nt s.nodes user 32=U at *
 clear h d c x;go_enter func57,ntmps57;go_wp2_with fail
 refine i.o.mono ?_;rintro e k ⟨rfl,b⟩;have f:=za b;clear b;go_wp2;go_ret2;exact⟨rfl,f.o⟩
theorem fs_Up (h:FsAt w gf s F a) (i:Nat) (K:i<32) (X) (J:s.nodes[i]?=some X):
 Calls prog 26 #[(gf,()),(i+1:Int)] w (λe w'=>e=.returned (.tuple #[(if X.k=2 then X.up else 0:Int),(if X.k=0 then 4 else if X.k=2 then 0 else 12:Int)])/\w=w'):=by
 have b:=za (rn h i K X J);obtain⟨D,u,B,I,r,v,f,m,n,E,A,G,H,p,x,t,l⟩:=sx h i K X J;have C:IntKind.i64.wrap (i+1-1)=i:=by rw[zM _ (by omega)];omega
 clear h J l;by_cases c:X.k=2
 .rw[c,zb (by omega),ze rfl]at b;rw[c,ze rfl,zb (by omega),ze rfl];go_enter func26,ntmps26;go_wp2_with fail
  refine b.o.mono ?_;rintro e j ⟨rfl,rfl⟩;go_wp2;go_ret2;simp
 .rw[zb c,zb c];rw[zb c]at b;obtain⟨y,g⟩:=zD (if X.k=0 then 4 else 12:Int);have d:y≠0:=by rw[<-g.o];split<;>decide
  rw[g.o]at b |-;have z:(y==0)=false:=by simpa using d
  have q:(y != 0)=true:=by simpa using d
  go_enter func26,ntmps26
  go_wp2_with fail
  refine b.o.mono ?_;rintro e j ⟨rfl,rfl⟩;go_wp2;go_ret2;simp
theorem UT (h:FsAt w gf s F a) (i:Nat) (K:i<32) (X) (I:s.nodes[i]?=some X) (J:X.k≠3):
 Calls prog 56 #[(gf,()),(i+1:Int)] w (λe w'=>e=.returned (.tuple #[.string ⟨#[]⟩,(if X.k=0 then 4 else 3:Int)])/\w=w'):=by
 have b:=za (sU h i K X I);obtain⟨C,t,A,H,q,u,d,l,f,D,z,E,G,n,v,r,j⟩:=sx h i K X I;have B:IntKind.i64.wrap (i+1-1)=i:=by rw[zM _ (by omega)];omega
 obtain⟨y,m⟩:=zD X.k;rw[m.o]at f b J |-;have x:(y==3)=false:=by simpa using J
 have p:(y != 3)=true:=by simpa using J
 clear h I j;by_cases c:y=0
 .subst c;go_enter func56,ntmps56;go_wp2_with fail
  refine b.o.mono ?_;rintro e g ⟨rfl,rfl⟩;go_wp2;go_ret2;simp
 .rw[show decide (y≠0)=true from zX c]at b;rw[zb c];go_enter func56,ntmps56;go_wp2_with fail
  refine b.o.mono ?_;rintro e g ⟨rfl,rfl⟩;go_wp2;go_ret2;simp
theorem GS (h:FsAt w gf s F a) (i) (X) (D) (R:DirS s i X D):
 Calls prog 53 #[(gf,()),(i+1:Int)] w (λe w'=>∃v,e=.returned (.tuple #[v,()])/\qM w' v (outD D)/\Below w w w'):=by
 have l:=za (rn h i R.lt X R.nd);rw[R.k,zb (by omega),ze rfl]at l;have q:=za (tH h);have u:Hid (∀(f) (T) (W),Below w w W->TxAt W w F f (gf,()) ⟨s.fo,s.rows,s.nodes,[],[],[],false,256⟩ T ->
  Calls prog 106 #[(f,()),(i+1:Int)] W (λe w'=>∃v,e=.returned v/\mU w' v D/\Below W W w')):=λf T W I J=>by
  have:=kO J (h.below I) i R.lt X R.nd (Ql R.pts h.k1) R.len R.sz;have N:secT ⟨s.fo,s.rows,s.nodes,[],[],[],false,256⟩ s=secE s:=by funext n;rfl
  rw[N,R.by_]at this;exact this.mono λe w' ⟨v,K,B,M⟩=>⟨v,K,⟨uq.of_owns B,pO B⟩,M⟩
 have x:D.length<=1000:=by have:=mM (secE s) X.P X.s;rw[R.by_]at this;have:=R.sz;have:=R.len;omega
 have A:Hid (∀(v) (W),mU W v D->Calls prog 105 #[v] W (P7 D W)):=λv W p=>mF v D W p R.byte (by omega);have r:=za R.ok;clear h R x;go_enter func53,ntmps53;go_wp2_with fail
 refine l.o.mono ?_;rintro e w' ⟨rfl,rfl⟩;go_wp2_with fail
 refine q.o.mono ?_;rintro e G ⟨f,T,rfl,j,c⟩;have d:=za j;have z:=za c;clear j c;go_wp2_with fail
 refine (u.o f T G d.o z.o).mono ?_;rintro e Q ⟨v,rfl,p,g⟩;have O:=za p;have y:=za (zi d.o g);clear p g;go_wp2_with fail
 refine (A.o v Q O.o).mono ?_;intro e H b;rcases b with⟨_,b⟩|⟨b,_⟩
 .obtain⟨C,rfl,E,m⟩:=b;have L:Hid (qM H C (outD D)):=uq.of_owns E;have t:=za (zi y.o m);clear E m;go_wp2;go_ret2;exact⟨C,rfl,L.o,t.o⟩
 .rw[r.o]at b;cases b
