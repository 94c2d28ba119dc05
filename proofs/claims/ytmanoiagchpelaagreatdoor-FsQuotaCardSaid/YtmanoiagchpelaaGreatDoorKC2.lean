import Derived.Test.YtmanoiagchpelaaGreatDoorKA29
set_option maxHeartbeats 0
set_option linter.all false
set_option maxRecDepth 100000
namespace Go.Proofs.YtmanoiagchpelaaGreatDoor
open Go.Proofs.Tryz Go.RowKit
theorem Y3 {w:World} {gf:Nat} {s:Fs} {F:Nat->Prop} {a:Addr} (h:FsAt w gf s F a) (x:∀X∈s.nodes,X.P.length<=8) (user) (y:0<=user/\user<=255):
 Calls prog 21 #[(gf,()),.int .i64 user] w (fun e w'=>e=.returned (.tuple #[.int .i64 (tr s.nodes user 32),()])/\Below w w w'):=by
 obtain⟨r,E,g,d,c⟩:=XW h;obtain⟨u,m,t,rfl,_,_⟩:=XK d c h.len;have i:=za (Jc d c h.len x user);obtain⟨q,n⟩:=y;have p:decide (user<0)=false:=zz (by omega);have j:decide (255<user)=false:=zz (by omega);have l:¬(user<0):=by omega
 have v:¬(255<user):=by omega
 generalize tr s.nodes user 32=U at *
 clear h d c x;go_enter func21,ntmps21;go_wp2_with fail
 refine i.o.mono ?_;rintro e k ⟨rfl,b⟩;have f:=za b;clear b;go_wp2;go_ret2;exact⟨rfl,f.o⟩
