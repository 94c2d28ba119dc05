import Derived.Test.YtmanoiagchpelaaGreatDoorKA33
set_option maxHeartbeats 0
set_option linter.all false
set_option maxRecDepth 100000
namespace Go.Proofs.YtmanoiagchpelaaGreatDoor
open Go.Proofs.Tryz Go.RowKit
theorem fs_Up {w:World} {gf:Nat} {s:Fs} {F:Nat->Prop} {a:Addr} (h:FsAt w gf s F a) (i:Nat) (K:i<32) (X) (J:s.nodes[i]?=some X):
 Calls prog 30 #[(gf,()),.int .i64 (i+1)] w (fun e w'=>e=.returned (.tuple #[.int .i64 (if X.k=2 then X.up else 0),.int .i64 (if X.k=0 then 4 else if X.k=2 then 0 else 12)])/\w=w'):=by
 have b:=za (VX h i K X J);obtain⟨D,u,B,I,r,v,f,m,n,E,A,G,H,p,x,t,l⟩:=oX h i K X J;have C:IntKind.i64.wrap (i+1-1)=i:=by rw[zQ _ (by omega)];omega
 clear h J l;by_cases c:X.k=2
 .rw[c,zb (by omega),ze rfl]at b;rw[c,ze rfl,zb (by omega),ze rfl];go_enter func30,ntmps30;go_wp2_with fail
  refine b.o.mono ?_;rintro e j ⟨rfl,rfl⟩;go_wp2;go_ret2;simp
 .rw[zb c,zb c];rw[zb c]at b;obtain⟨y,g⟩:=zD (if X.k=0 then 4 else 12:Int);have d:y≠0:=by rw[<-g.o];split<;>decide
  rw[g.o]at b ⊢;have z:(y==0)=false:=by simpa using d
  have q:(y != 0)=true:=by simpa using d
  go_enter func30,ntmps30
  go_wp2_with fail
  refine b.o.mono ?_;rintro e j ⟨rfl,rfl⟩;go_wp2;go_ret2;simp
