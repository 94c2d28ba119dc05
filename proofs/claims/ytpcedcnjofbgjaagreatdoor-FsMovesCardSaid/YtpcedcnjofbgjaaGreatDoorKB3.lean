import Derived.Test.YtpcedcnjofbgjaaGreatDoorKA24
import Derived.Test.YtpcedcnjofbgjaaGreatDoorKB1
set_option maxHeartbeats 0
set_option linter.all false
set_option maxRecDepth 100000
namespace Go.Proofs.YtpcedcnjofbgjaaGreatDoor
open Go.Proofs.Tryz Go.RowKit
variable {C:World->Prop} {Q:Act->Prop} {a:Act} {n:Nat} {o:Oper} {ops:Array Oper} {rest:List Oper} {w:World}
theorem YY (W:World) (x:Int):(convert 38 9 (.slice (some ⟨W.heap.size,0,none⟩) 1 1)).run prog (W.alloc (.cells #[.int .u8 x] 5))=.ok (.string (tu [x])) (W.alloc (.cells #[.int .u8 x] 5)):=by refine sC _ 38 9 5 W.heap.size 0 1 1 [x] rfl Lu Tb O4 λj v a=>?_;simp_all
theorem XP (x:Int):(tu [x]).size=1:=rfl
def numS (n:Nat):ByteArray:=if h:9<n then numS (n / 10)++numS (n%10) else tu [48+(n:Int)]
termination_by n
decreasing_by all_goals omega
theorem Ut (h:9<n):numS n=numS (n / 10)++numS (n%10):=by
 conv=>lhs;unfold numS
 lia
theorem Wt (h:¬9<n):numS n=tu [48+(n:Int)]:=by rw[numS,dif_neg h]
theorem qA (n:Nat):0<(numS n).size/\(numS n).size<=n+1:=by
 induction n using Nat.strongRecOn with
 | _ n a=>
  by_cases h:9<n
  .have:=a (n / 10) (by omega);have:=a (n%10) (by omega);rw[Ut h,Mn];omega
  .rw[Wt h,XP];omega
theorem TY (n:Nat) (E:n<=100000) (w:World):Calls prog 17 #[n] w (κ w (.string (numS n))):=by
 induction n using Nat.strongRecOn generalizing w with
 | _ n f=>
  have C:decide ((n:Int)<0)=false:=zJ (by omega);have z:¬((n:Int)<0):=by omega
  by_cases l:9<n
  .have m:decide ((9:Int)<(n:Int))=true:=zX (by omega);have v:(9:Int)<(n:Int):=(by omega);have u:IntKind.i64.wrap ((n:Int).tdiv 10)=((n / 10:Nat):Int):=(by rw[show (n:Int).tdiv 10=((n / 10:Nat):Int) from rfl];exact zM _ (by omega));have p:IntKind.i64.wrap ((n:Int).tmod 10)=((n%10:Nat):Int):=(by rw[show (n:Int).tmod 10=((n%10:Nat):Int) from rfl];exact zM _ (by omega));have r:=qA (n / 10);have y:=qA (n%10);have g:=za (Ut l);obtain⟨t,a⟩:∃s,numS (n / 10)=s:=⟨_,rfl⟩;obtain⟨q,b⟩:∃s,numS (n%10)=s:=⟨_,rfl⟩;rw[a]at r g;rw[b]at y g;have k:=za (f (n / 10) (by omega) (by omega));have j:=za (f (n%10) (by omega) (by omega));rw[a]at k;rw[b]at j;go_enter func17,ntmps17;go_wp2_with fail
   refine (k.o _).mono ?_;rintro e A ⟨rfl,d⟩;go_wp2_with fail
   refine (j.o _).mono ?_;rintro e x ⟨rfl,c⟩;have i:Hid (Below w w x):=zi (za d).o c;have B:¬9223372036854775807<t.size+q.size:=(by omega);go_wp2;go_ret;exact⟨by rw[g.o];rfl,i.o⟩
  .have m:decide ((9:Int)<(n:Int))=false:=zJ (by omega);have v:¬(9:Int)<(n:Int):=(by omega);have u:IntKind.u8.wrap (48+(n:Int))=48+(n:Int):=IntWalk.u8_in _ (by omega);have p:=zW (48+(n:Int)) (by omega);have D:=YY w (48+(n:Int));go_enter func17,ntmps17;go_wp2;go_ret;exact⟨by rw[Wt l];rfl,zB.alloc zL _⟩
section
variable {P : Program}
theorem tN (e:Region.wanted o (yielded ops a.tmps)=true) (v:Value)
 (f:∀w,C w->(execOp a.eval o).run P w=.ok (.value v) w) (h:wpQuiet P ops C Q rest (a.put o.dst v)):wpQuiet P ops C Q (o::rest) a:=
 ur e λ_ c=>⟨v,λd b=>by rw[Oper.quietAt,f d b];exact⟨rfl,rfl⟩,c _ h⟩
end
theorem E9 (W:World):(convert 38 9 (.slice none 0 0)).run prog W=.ok (.string ⟨#[]⟩) W:=by rfl
theorem TH (s d:TypeId) (x:Operand) (b:o.op=.convert s d x) (v r:Value) (c:a.eval x=v) (e:(convert s d v).run prog w=.ok r w):(execOp a.eval o).run prog w=.ok (.value r) w:=by simp only[execOp,b,c,Nn,e,yM];simp[go_sem]
def Qz (a:AN):ByteArray:=if a.k=1 then tu a.D else ⟨#[]⟩
structure ms (s:Fs) (A:Nat->AN):Prop where
 at_:∀i,i<32->(s.nodes.getD i zN).k=(A i).k/\(s.nodes.getD i zN).m=(A i).m/\(s.nodes.getD i zN).u=(A i).u/\(s.nodes.getD i zN).g=(A i).g/\(s.nodes.getD i zN).s=(A i).s/\(s.nodes.getD i zN).l=(A i).l/\(s.nodes.getD i zN).up=(A i).up/\sF (secE s) (s.nodes.getD i zN).P (s.nodes.getD i zN).s=(A i).D
 fld:∀i,i<32->SX (s.nodes.getD i zN)
 pts:∀i,i<32->Zm (s.nodes.getD i zN).P s.k
 dirs:∀i,i<32->(A i).k=2->DirS s i (s.nodes.getD i zN) (A i).D
 byte:Tj s
 len:s.nodes.length=32
theorem ms.dlen {s:Fs} {A:Nat->AN} (h:ms s A) {j:Nat} (o:j<32):(A j).D.length<=512:=by
 let⟨i,f,m,g,l,d,k,b⟩:=h.at_ j o;have a:=mM (secE s) (s.nodes.getD j zN).P (s.nodes.getD j zN).s;rw[b]at a;rcases h.fld j o with c|⟨_,e,n,_⟩
 .rw[c]at a;exact zv a (by decide)
 .omega
theorem O7 (l) {v:Value} (d:uM w v l):(convert 38 9 v).run prog w=.ok (.string (tu l)) w:=by
 by_cases h:0<l.length
 .exact fJ l h d
 .obtain rfl:l=[]:=yz.1 (by omega);obtain⟨_,⟨_,q,c,rfl⟩|⟨b,a,c,rfl,_⟩⟩:=d
  .rw[My w 38 9 5 q 0 c Lu Tb O4];cases q<;>rfl
  rfl
section
variable {w : World} {gf : Nat} {s : Fs} {F : Nat->Prop} {a : Addr} {A : Nat->AN} {j : Nat}
theorem ms.nd (h:ms s A) (a:j<32):s.nodes[j]?=some (s.nodes.getD j zN):=by rw[zt,zk (by rwa[h.len])];rfl
theorem ms.fP (h:ms s A) (e:j<32):(s.nodes.getD j zN).P.length<=8/\(0<=(s.nodes.getD j zN).s/\(s.nodes.getD j zN).s<=512)/\(s.nodes.getD j zN).s<=64*((s.nodes.getD j zN).P.length):=by
 rcases h.fld j e with b|⟨_,c,d,_,_,a⟩
 .rw[b];decide
 .unfold jy at a;lia
variable (hf : FsAt w gf s F a) (h : ms s A) (hj : j<32)
include hf h hj
theorem WU: Calls prog 16 #[(gf,()),(j+1:Int),(),(512:Int)] w (λe w'=>∃v,e=.returned (.tuple #[v,(if (A j).k=0 then 4 else if (A j).k=1 then 0 else 12:Int)])/\(∀W,Below w' w' W->(convert 38 9 v).run prog W=.ok (.string (Qz (A j))) W)/\Below w w w'):=by
 let⟨b,_,_,_,q,_,_,m⟩:=h.at_ j hj;let⟨l,f,p⟩:=h.fP hj;by_cases a:(A j).k=1
 .have c:Qz (A j)=tu (A j).D:=ze a;rw[c,zb (by omega),ze a];refine (J1 hf h.byte j hj _ (h.nd hj) (b.trans a) (h.pts j hj) l f 0 512 (by omega) (by omega) (by omega)).mono ?_;rintro e w' ⟨v,rfl,d,g⟩;refine⟨v,rfl,λW i=>?_,g⟩;have n:oA (sF (secE s) (s.nodes.getD j zN).P (s.nodes.getD j zN).s) 0 512=(A j).D:=by unfold oA;rw[m,vy,zo (h.dlen hj)]
  rw[n]at d;exact O7 _ (uq.below d i)
 .have c:Qz (A j)=⟨#[]⟩:=zb a;rw[c];refine (Vy hf j hj _ (h.nd hj) (λo=>a (b.symm.trans o)) 0 512 (by omega)).mono ?_;rintro e w' ⟨rfl,rfl⟩;exact⟨_,by lia,λW _=>E9 W,zB⟩
end
def numI (z:Int):ByteArray:=numS z.toNat
theorem kT (z) (a:0<=z) (b:z<=600):(numI z).size<=601:=by have:=(qA z.toNat).2;unfold numI;omega
theorem SF (z) (a:0<=z) (b:z<=600) (W):Calls prog 17 #[(z:Int)] W (κ W (.string (numI z))):=by have:=TY z.toNat (by omega) W;rwa[rp a]at this
theorem mI (x) (b:o.op=.call {callee:=.value (.func 17),args:=#[x],argTypes:=#[3]})
 (c:Region.wanted o (yielded ops a.tmps)=true) (z) (d:a.eval x=.int .i64 z) (f:∀w' w'',C w'->Below w' w' w''->C w'')
 (g:∀W,Calls prog 17 #[(z:Int)] W (κ W (.string (numI z)))) (h:wpQuiet prog ops C Q rest (a.put o.dst (.string (numI z)))):wpQuiet prog ops C Q (o::rest) a:=
 sG _ #[x] _ b c (λ_ _=>by rfl) #[z] (by simp[d]) _ f (λw' _=>g w') h
section
variable {s : Fs} {c i j : Nat} {A B : Nat->AN} {a b : ByteArray}
theorem SI.see (a:SI s c A) (g:GI A λ_=>0):ms s A where
 at_ m hm:=a.A_at hm
 fld:=(a.tv []).ti.nd
 pts m hm:=a.pts hm
 dirs m hm hk:=by have h:=(a.dirsOk g).1 m hm ((a.A_at hm).1.trans hk);rwa[(a.A_at hm).2.2.2.2.2.2.2]at h
 byte:=a.byteE
 len:=(a.tv []).ti.len
end
