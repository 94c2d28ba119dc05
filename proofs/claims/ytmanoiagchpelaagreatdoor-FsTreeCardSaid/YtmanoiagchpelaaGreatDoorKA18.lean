import Derived.Test.YtmanoiagchpelaaGreatDoorKA10
import Derived.Test.YtmanoiagchpelaaGreatDoorKA16
set_option maxHeartbeats 0
set_option linter.all false
set_option maxRecDepth 100000
namespace Go.Proofs.YtmanoiagchpelaaGreatDoor
open Go.Proofs.Tryz Go.RowKit Go.Sort Go.Shelf
def encE (x:En):List Value:=[.string x.1,.int .i64 x.2]
def cfE (x y:En):Int:=cmpB x.1 y.1
theorem fT (x):(encE x).length=2:=rfl
theorem QJ (x):∀v∈encE x,v.oneCell'=true:=by intro v a;simp[encE]at a;rcases a with rfl|rfl<;>rfl
theorem ZO (a b):decide (cmpB a b<0)=lexB a b:=by
 unfold cmpB;cases lexB a b with
 | true=>rfl
 | false=>by_cases h:a=b<;>simp[h]
theorem QS: SWO (ltOf cfE) where
 irrefl x:=by unfold ltOf cfE;rw[ZO];exact Yc _
 trans x y z h1 h2:=by
  unfold ltOf cfE at *
  rw[ZO]at *
  exact Zr h1 h2
 ntrans x y z h1 h2:=by
  unfold ltOf cfE at *
  rw[ZO]at *
  cases h:lexB x.1 z.1 with
  | false=>rfl
  | true=>
   cases a:lexB y.1 x.1 with
   | true=>rw[Zr a h]at h2;cases h2
   | false=>rw[Z5 h1 a]at h;rw[h]at h2;cases h2
theorem QT (x y) (W):
 Calls prog 166 #[.agg (encE x).toArray,.agg (encE y).toArray] W fun e w'=>e=.returned (.int .i64 (cfE x y))/\∃q os',w'=grow (W.drewN q) os':=by
 unfold cfE encE;obtain⟨a,h⟩:=x;obtain⟨b,g⟩:=y;obtain⟨r,c⟩:=zD (cmpB a b);have i:Hid (∀W,Calls prog 167 #[.string a,.string b] W fun e w'=>e=.returned r/\W=w'):=fun W=>by rw[<-c.o];exact IV a b W
 have d:cmpB (a,h).1 (b,g).1=r:=c.o;rw[d];clear c d;have f:¬W.heap.size=W.heap.size+1:=by omega
 go_enter func166,ntmps166
 go_wp2_with fail
 refine (i.o _).mono ?_;rintro e j ⟨rfl,rfl⟩;go_wp2;go_ret;exact⟨rfl,0,_,by rw[alloc_eq_grow,alloc_eq_grow,grow_grow];rfl⟩
def SortE (base:Nat) (v:Value) (O:List En) (W:World) (e:Ending) (w':World):Prop:=e=.returned (.tuple #[])/\∃T,T.Perm O/\T.Pairwise (fun a b=>lexB b.1 a.1=false)/\w'.ownsRow base 46 2 v O.length (ents T)/\W.grownBy w' v.ownBlock
theorem R6: ∀(args) (w),(callFunc 166 args).run prog w=.ok (.enter 166 args) w:=enters_of func166 (by kernel_rfl) rfl
theorem Rj (base) (v) (O) (W) (V:W.ownsRow base 46 2 v O.length (ents O)) (X:O.length<=1000000):
 Calls prog 165 #[v,.func (.func 166) #[] #[]] W (SortE base v O W):=by
 have d:=V;obtain⟨T,⟨rfl,P⟩|⟨g,f,t,rfl,J,c,F,Q,D,I⟩⟩:=V
 .have K:=yR.1 P;refine (sH j9 none 0 (.func (.func 166) #[] #[]) W).mono fun e H ⟨w,B⟩=>⟨w,O,ig _,?_,?_,?_⟩
  .rw[K];exact List.Pairwise.nil
  .rw[B];exact d
  .rw[B];exact⟨rfl,rfl,rfl,zL,fun _ _ _=>rfl⟩
 .have a:O.toArray.size=O.length:=by simp
  have M:=KK fT c (by rw[a];have e:O.toArray.toList.flatMap encE=ents O:=rfl;rw[e];exact I);have o:CmpLays prog 166 #[] encE 2 cfE g 0 O.toArray.size W:=fun m os U _ x y=>QT x y _;have h:=qQ j9 2 isAgg46 sizeOf46 encE fT QJ cfE QS 166 #[] g 0 f O.toArray W R6 o M (xR c) (by rw[a];omega);rw[a]at h;refine h.mono ?_;rintro e H ⟨w,b,n,os,C,z,rfl⟩;have q:b.size=O.length:=by rw[C.1,a]
  have l:b.toList.length=O.length:=by simpa using q
  have u:b.size*2<=t.size:=by rw[q,D];exact qJ _ F
  obtain⟨p,G,R,A⟩:=Ju (enc:=encE) (k:=2) fT (m:=n) (os:=os) c u;refine⟨w,b.toList,?_,?_,?_,Jt⟩
  .have:=C.2.2;have S:(b.extract 0 O.length).toList=b.toList:=(by rw[<-q];simp);have L:(O.toArray.extract 0 O.length).toList=O:=(by simp);rw[S,L]at this;exact this
  .rw[xZ];intro i j N E s;rw[l]at N E;have r:=z i j zZ s E;rw[us b i (by omega),us b j (by omega)]at r;unfold ltOf cfE at r;rw[ZO]at r;rw[ua,ua];exact r
  .refine⟨by rw[l3,l],zu ⟨g,f,p,rfl,J,G,F,Q,by rw[R];exact D,?_⟩⟩;rw[q]at A;exact A
