import Derived.Test.YtakfhadmokoikaaGreatDoorKA12
import Derived.Test.YtakfhadmokoikaaGreatDoorKA14
import Derived.Deep.OwnRows
import Derived.Deep.DeepCutAuto
import Derived.Laws.Bits64b
set_option maxHeartbeats 0
set_option linter.all false
set_option maxRecDepth 100000
namespace Go.Proofs.YtakfhadmokoikaaGreatDoor
open Go.Proofs.Tryz Go.RowKit
variable {B b1 b2:Nat} {L P:List Int} {W w w2:World} {g k l m s u up:Int} {o1 o2:Obj} {v:Value}
theorem U5 (n:Nat):madeCells #[Value.int .u8 0] n=(u8s (List.replicate n 0)).toArray:=by
 apply yV;intro i;unfold madeCells u8s;by_cases h:i<n
 .simp[h,qJ]
 .simp[h]
theorem jl (n:Nat) (x:Int) (a:x=n) (b:n<=1000000) (W:World):(Instr.makeSlice 23 (.int .i64 x) (.int .i64 x)).run prog W=.ok (W.heap.size,0,n,n) (W.alloc (.cells (u8s (List.replicate n 0)).toArray 5)):=by subst a;rw[<-U5];exact run_make_row' 23 5 (.int .u8 0) 1 u8sT jt rfl .i64 .i64 n (by omega) (by omega) W
section
variable {w : World} {gd gs gn : Nat} {wt : Value} {E : List (Nat×Value)} {st : Dk} {L k : Nat} {F : Nat->Prop}
end
def rM (k m u g s l up:Int) (P:List Int):List Int:=
 if k=0 then List.replicate 32 0 else [k,m%256,m / 256,u,g,s%256,s / 256,l,up]++sk (ofE P)++List.replicate 7 0
theorem ZI (W:World):(Instr.makeSlice 23 (.int .i64 32) (.int .i64 32)).run prog W=.ok (.slice (some ⟨W.heap.size,0,none⟩) 32 32) (W.alloc (.cells (byts (List.replicate 32 0)) 5)):=by kernel_rfl
theorem Pe (k m u g s l i:Int) (v:Value) (P:List Int) (w:World) (h:vQ w v P) (j:P.length<=1000000) (c:Int) (n:Hid (vL k m u g s l i P=c)) (p:(c != 0)=true):
 Calls prog 84 #[.agg #[k,m,u,g,s,l,i,v]] w fun e w'=>e=.returned (.tuple #[.slice none 0 0,c])/\Below w w w':=by
 have b:Hid (∀o:Obj,Below w w (w.alloc o)):=fun o=>zB.alloc zL o;have H:Hid (∀o:Obj,vQ (w.alloc o) v P):=fun o=>xT.below h (b.o o);clear h;go_enter func84,ntmps84;go_wp2_with fail
 refine (VQ k m u g s l i v P _ (H.o _) j).mono ?_;rw[n.out];rintro e f ⟨rfl,a⟩;have d:=Below.step (b.o _) a;clear a;go_wp2;go_ret2;exact⟨rfl,d⟩
def WK (k m u g s l up:Int) (P:List Int) (w:World) (e:Ending) (w':World):Prop:=
 ∃b,e=.returned (.tuple #[.slice (some ⟨b,0,none⟩) 32 32,()])/\w.heap.size<=b/\w'.heap[b]?=some (.cells (byts (rM k m u g s l up P)) 5)/\Below w w w'
theorem Na (v:Value) (w:World) (h:vQ w v []):
 Calls prog 84 #[.agg #[(),(),(),(),(),(),(),v]] w (WK 0 0 0 0 0 0 0 [] w):=by
 have i:Hid (∀o:Obj,Below w w (w.alloc o)):=fun o=>zB.alloc zL o;have H:Hid (∀o:Obj,vQ (w.alloc o) v []):=fun o=>xT.below h (i.o o);obtain⟨j,f⟩:=zA (byts (List.replicate 32 0));have l:∀W:World,(Instr.makeSlice 23 (.int .i64 32) (.int .i64 32)).run prog W=.ok (.slice (some ⟨W.heap.size,0,none⟩) 32 32) (W.alloc (.cells j 5)):=fun W=>by rw[f.o];exact ZI W
 clear h;go_enter func84,ntmps84;go_wp2_with fail
 refine (VQ 0 0 0 0 0 0 0 v [] _ (H.o _) (by simp)).mono ?_;have g:vL 0 0 0 0 0 0 0 []=0:=rfl;rw[g];rintro e c ⟨rfl,a⟩;have d:=Below.step (i.o _) a;have b:=we a (zT w _);have n:=(uI b).1;have k:=xL b;have m:Hid ((c.alloc (.cells j 5)).heap[c.heap.size]?=some (.cells (byts (rM 0 0 0 0 0 0 0 [])) 5)):=by
  have e:rM 0 0 0 0 0 0 0 []=List.replicate 32 0:=by unfold rM;rw[ze rfl]
  rw[e,<-f.o];exact zH
 clear a g b;go_wp2;go_ret2;exact⟨c.heap.size,rfl,d.size,m.o,d.alloc d.size _⟩
-- GOOD
theorem Qf (l:List Int) (i:Nat) (x:Int):(byts l).setIfInBounds i (.int .u8 x)=byts (l.set i x):=by unfold byts;rw[zM,uZ]
theorem L6 (h:vL k m u g s l up P=0) (f:¬k=0):
 (1<=k/\k<=3)/\(0<=m/\m<=511)/\(0<=u/\u<=255)/\(0<=g/\g<=255)/\(0<=s/\s<=512)/\(0<=l/\l<=200)/\(0<=up/\up<=32)/\tI P=0/\(P.length:Int)=tX s:=by
 unfold vL at h;rw[zb f]at h;by_cases c:k<0\/3<k\/m<0\/511<m\/u<0\/255<u\/g<0\/255<g\/l<0\/200<l
 .rw[ze c]at h;cases h
 rw[zb c]at h;by_cases b:s<0\/512<s
 .rw[ze b]at h;cases h
 rw[zb b]at h;by_cases d:(k=2/\(up<1\/32<up))\/(k≠2/\up≠0)
 .rw[ze d]at h;cases h
 rw[zb d]at h;by_cases a:tI P≠0
 .rw[ze a]at h;exact yb h a
 rw[zb a]at h;by_cases e:(P.length:Int)≠tX s
 .rw[ze e]at h;cases h
 refine⟨by omega,by omega,by omega,by omega,by omega,by omega,by omega,by omega,by omega⟩
def l5 (L:List Int) (y0 y1 y2 y3 y4:Int):List Int:=((((L.set 0 y0).set 1 y1).set 2 y2).set 3 y3).set 4 y4
def l4 (L:List Int) (y5 y6 y7 y8:Int):List Int:=(((L.set 5 y5).set 6 y6).set 7 y7).set 8 y8
def pO (w:World) (b2 B b1:Nat) (o1 o2:Obj) (L:List Int) (W:World):Prop:=
 W.heap[B]?=some (.cells (byts L) 5)/\W.heap[b1]?=some o1/\W.heap[b2]?=some o2/\Below w w W
theorem pO.set (h:pO w b2 B b1 o1 o2 L W) (a:b1≠B) (b:b2≠B) (c:w.heap.size<=B) (i:Nat) (y:Int):pO w b2 B b1 o1 o2 (L.set i y) (W.setCell (B,i) (.int .u8 y)):=by refine⟨?_,(yC _ _ _ b1 a).trans h.2.1,(yC _ _ _ b2 b).trans h.2.2.1,h.2.2.2.setCell c _⟩;have:=zX _ _ i _ _ (.int .u8 y) h.1;rw[Qf]at this;exact this
theorem pO.drew (h:pO w b2 B b1 o1 o2 L W):pO w b2 B b1 o1 o2 L W.drew:=⟨h.1,h.2.1,h.2.2.1,h.2.2.2.drew⟩
theorem Uq (h:pO w b2 B b1 o1 o2 L w2) (a:b1≠B) (b:b2≠B) (c:w.heap.size<=B) (d e f g i:Int):pO w b2 B b1 o1 o2 (l5 L d e f g i) (((((w2.setCell (B,0) (.int .u8 d)).setCell (B,1) (.int .u8 e)).setCell (B,2) (.int .u8 f)).setCell (B,3) (.int .u8 g)).setCell (B,4) (.int .u8 i)).drew:=
 (((((h.set a b c 0 d).set a b c 1 e).set a b c 2 f).set a b c 3 g).set a b c 4 i).drew
theorem Ur (h:pO w b2 B b1 o1 o2 L w2) (a:b1≠B) (b:b2≠B) (c:w.heap.size<=B) (d e f g:Int):pO w b2 B b1 o1 o2 (l4 L d e f g) ((((w2.setCell (B,5) (.int .u8 d)).setCell (B,6) (.int .u8 e)).setCell (B,7) (.int .u8 f)).setCell (B,8) (.int .u8 g)).drew:=
 ((((h.set a b c 5 d).set a b c 6 e).set a b c 7 f).set a b c 8 g).drew
theorem pO.zero {y0 y1 y2 y3 y4:Int} (h:pO w b2 B b1 o1 o2 (l5 (List.replicate 32 0) y0 y1 y2 y3 y4) W) (j:Nat) (b:5<=j) (a:j<32):W.cell? (B,j)=some (.int .u8 0):=by rw[zC h.1];unfold byts l5;rw[xB,xy,wl (by omega),wl (by omega),wl (by omega),wl (by omega),wl (by omega),yY,ze a];rfl
theorem pO.free (h:pO w b2 B b1 o1 o2 L W) (j:Nat):W.frozen? (B,j)=false:=zF h.1
theorem W8 {a:World} (h:Below B a w) {g:Nat} (c:B<=g) (cs:Array Value):Below B a (w.setRow g cs):=
 ⟨h.os,h.tape,h.output,by simpa using h.size,fun i b=>(yZ w g i cs (by omega)).trans (h.block i b)⟩
theorem SN (_hp:(sk (ofE P)).length=16) (a:¬k=0):
 ((byts (l4 (l5 (List.replicate 32 0) k (m%256) (m / 256) u g) (s%256) (s / 256) l up)).toList.take 9++u8s (sk (ofE P))++(byts (l4 (l5 (List.replicate 32 0) k (m%256) (m / 256) u g) (s%256) (s / 256) l up)).toList.drop (9+16)).toArray=byts (rM k m u g s l up P):=by
 unfold rM;rw[zb a];unfold byts;rw[yB,yB];rfl
theorem O9 (k m u g s l up:Int) (v:Value) (P:List Int) (w:World) (h:vQ w v P) (hr:vL k m u g s l up P=0) (hk:¬k=0):
 Calls prog 84 #[.agg #[k,m,u,g,s,l,up,v]] w (WK k m u g s l up P w):=by
 obtain⟨⟨k0,k1⟩,⟨m0,m1⟩,⟨u0,u1⟩,⟨g0,g1⟩,⟨s0,s1⟩,⟨l0,l1⟩,⟨an,a5⟩,C,ae⟩:=L6 hr hk;clear ae;have T:Hid (∀o:Obj,Below w w (w.alloc o)):=fun o=>zB.alloc zL o;have H:Hid (∀o:Obj,vQ (w.alloc o) v P):=fun o=>xT.below h (T.o o);obtain⟨Q,Z⟩:=zA (byts (List.replicate 32 0));have ac:∀W:World,(Instr.makeSlice 23 (.int .i64 32) (.int .i64 32)).run prog W=.ok (.slice (some ⟨W.heap.size,0,none⟩) 32 32) (W.alloc (.cells Q 5)):=fun W=>by rw[Z.o];exact ZI W
 have HR:=Lib.hid hr;have y:=Lib.hid C;have ao:(k==0)=false:=by simpa using hk
 have a0:(k != 0)=true:=by simpa using hk
 have HK:=Lib.hid hk;clear h hr C hk;go_enter func84,ntmps84;go_wp2_with fail
 refine (VQ k m u g s l up v P _ (H.o _) (by have:=WN y.o;omega)).mono ?_;rw[HR.o];rintro e q ⟨rfl,p⟩;have r:=Below.step (T.o _) p;have K:=we p (zT w (.cells #[k,m,u,g,s,l,up,v] 59));have H1:Hid (∀o:Obj,vQ (q.alloc o) v P):=fun o=>xT.below (xT.below (H.o _) p) (zB.alloc zL o);have Q1:=Lib.hid K;have c0:=(uI K).1;have c7:=(uI K).2.2.2.2.2.2.2;have D:w.heap.size<q.heap.size:=xL K;clear K p;go_wp2_with fail
 refine (L7 _ P _ (H1.o _) y.o).mono ?_;rintro e N ⟨t,rfl,aj,G,i⟩;have q2:=we i (tf Q1.out (.cells Q 5));have M:=we i (zT q (.cells Q 5));have E:Below w w N:=Below.step (r.alloc r.size _) i;have J:=Lib.hid G;have F:q.heap.size<t:=by have:(q.alloc (.cells Q 5)).heap.size=q.heap.size+1:=(by simp);omega
 have L:q.heap.size<N.heap.size:=xL M;obtain⟨B,HB⟩:=zA q.heap.size;rw[<-HB.o]at M L F ⊢;have S:=Lib.hid M;have O:Hid (pO w t B w (.cells #[k,m,u,g,s,l,up,v] 59) (.cells (byts (sk (ofE P))) 5) (List.replicate 32 0) N):=⟨by rw[<-Z.o];exact M,q2,J.o,E⟩;obtain⟨Y,d1,R,d3,d4,d5,X,U⟩:=uI q2;have A:¬w.heap.size=B:=by rw[HB.o];omega
 have f:w.heap.size<=B:=by rw[HB.o];omega
 have b:∀j,j<32->N.cell? ⟨B,j,none⟩=some (.int .u8 0):=fun j hj=>by rw[zC S.out,Z.o];unfold byts;rw[xB,xy,yY,ze hj];rfl
 have x0:=b 0 (by omega);have x1:=b 1 (by omega);have x2:=b 2 (by omega);have x3:=b 3 (by omega);have x4:=b 4 (by omega);have z:∀j,N.frozen? ⟨B,j,none⟩=false:=fun j=>zF S.out;have f0:=z 0;have f1:=z 1;have f2:=z 2;have f3:=z 3;have f4:=z 4;clear c0 c7 M q2 G i b z ac aj E r S J Q1 H1 T H D
 go_upto_region 10 with fail
 go_cut [5] (fun s5 V=>s5=.slice (some ⟨B,0,none⟩) 32 32/\Hid (pO w t B w (.cells #[k,m,u,g,s,l,up,v] 59) (.cells (byts (sk (ofE P))) 5) (l5 (List.replicate 32 0) k (m%256) (m / 256) u g) V))
 case first=>
  go_region
  all_goals
   go_wp2_with fail
   go_meet
   case rel=>exact⟨rfl,Uq O.o A (by omega) f k (m%256) (m / 256) u g⟩
 case rest=>
  obtain⟨rfl,a⟩:=hcut;clear Y d1 R d3 d4 d5 X U x0 x1 x2 x3 x4 f0 f1 f2 f3 f4 O;obtain⟨Y,d1,R,d3,d4,d5,X,U⟩:=uI a.o.2.1;have x5:=a.o.zero 5 (by omega) (by omega);have x6:=a.o.zero 6 (by omega) (by omega);have x7:=a.o.zero 7 (by omega) (by omega);have x8:=a.o.zero 8 (by omega) (by omega);have f5:=a.o.free 5;have f6:=a.o.free 6;have f7:=a.o.free 7;have f8:=a.o.free 8
  go_upto_region 11 with fail
  go_cut [5] (fun s5 V=>s5=.slice (some ⟨B,0,none⟩) 32 32/\Hid (pO w t B w (.cells #[k,m,u,g,s,l,up,v] 59) (.cells (byts (sk (ofE P))) 5) (l4 (l5 (List.replicate 32 0) k (m%256) (m / 256) u g) (s%256) (s / 256) l up) V))
  case first=>
   go_region
   all_goals
    go_wp2_with fail
    go_meet
    case rel=>exact⟨rfl,Ur a.o A (by omega) f (s%256) (s / 256) l up⟩
  case rest=>
   obtain⟨rfl,n⟩:=hcut;clear Y d1 R d3 d4 d5 X U x5 x6 x7 x8 f5 f6 f7 f8 a;go_wp2_with fail
   have c:(sk (ofE P)).length=16:=VS y.o;have d:=rE (P:=prog) wc 23 23 3 5 B 9 23 23 ⟨t,0,none⟩ 16 16 _ 5 (u8s (sk (ofE P))) (by kernel_rfl) (by kernel_rfl) n.o.1 (by rw[vO,c];rfl)
    (fun j x hx=>by have I:(⟨t,0,none⟩:Addr).add j=⟨t,j,none⟩:=(by unfold Addr.add;split<;>simp_all);rw[I,zC n.o.2.2.1];unfold byts;rw[xB];exact hx) (by rw[vO,c];simp[byts,l4,l5]) (oR _)
   rw[vO,c,SN c HK.o]at d;have HP:Hid (WK k m u g s l up P w (.returned (.tuple #[.slice (some ⟨B,0,none⟩) 32 32,()])) (wc.setRow B (byts (rM k m u g s l up P)))):=
    ⟨B,rfl,f,yi _ _ _ _ _ _ n.o.1,W8 n.o.2.2.2 f _⟩
   rw[d];clear d c;go_wp2;go_ret2;exact HP.o
theorem or_nat (a b:Nat) (g:a<256) (h:b<256):bits .or .i64 (a:Int) ((b:Int)*256)=(a:Int)+(b:Int)*256:=by
 have d:((b:Int)*256)=((b*256:Nat):Int):=by omega
 have c:(BitVec.ofInt 64 (a:Int)).toNat=a:=by rw[qO,BitVec.toNat_ofNat];exact vx (by omega)
 have f:(BitVec.ofInt 64 ((b*256:Nat):Int)).toNat=b*256:=by rw[qO,BitVec.toNat_ofNat];exact vx (by omega)
 rw[d];show IntKind.i64.wrap ((BitVec.ofInt 64 (a:Int) ||| BitVec.ofInt 64 ((b*256:Nat):Int)).toNat:Int)=_;have e:a ||| b*256=b*256+a:=by have:=Nat.shiftLeft_add_eq_or_of_lt (i:=8) (b:=a) (by omega) b;rw[Nat.shiftLeft_eq]at this;rw[Nat.or_comm];exact this.symm
 rw[BitVec.toNat_or,c,f,e,zQ _ (by omega)];omega
theorem ii (a b:Int) (c:0<=a) (d:a<=255) (e:0<=b) (f:b<=255):bits .or .i64 a (b*256)=a+b*256:=by have:=or_nat a.toNat b.toNat (by omega) (by omega);rw[vK c,vK e]at this;exact this
def midB (bs:List Int):List Int:=(bs.drop 9).take 16
def ptsN (bs:List Int):List Int:=(sY (midB bs)).1
def o9 (bs:List Int):Prop:=bs.length=32/\mi (midB bs)/\vL (bs.getD 0 0) (bs.getD 1 0+bs.getD 2 0*256) (bs.getD 3 0) (bs.getD 4 0) (bs.getD 5 0+bs.getD 6 0*256) (bs.getD 7 0) (bs.getD 8 0) (ptsN bs)=0 /\
 rM (bs.getD 0 0) (bs.getD 1 0+bs.getD 2 0*256) (bs.getD 3 0) (bs.getD 4 0) (bs.getD 5 0+bs.getD 6 0*256) (bs.getD 7 0) (bs.getD 8 0) (ptsN bs)=bs
def iY (B:Nat) (w:World) (v:Value) (P:List Int):Prop:=vQ w v P/\∀b,v.ownBlock=some b->B<=b
def Yw (bs:List Int) (w:World) (e:Ending) (w':World):Prop:=
 (o9 bs/\∃v,e=.returned (.tuple #[.agg #[.int .i64 (bs.getD 0 0),.int .i64 (bs.getD 1 0+bs.getD 2 0*256),.int .i64 (bs.getD 3 0),.int .i64 (bs.getD 4 0),.int .i64 (bs.getD 5 0+bs.getD 6 0*256),.int .i64 (bs.getD 7 0),.int .i64 (bs.getD 8 0),v],()])/\iY w w' v (ptsN bs)/\Below w w w') \/
 (¬o9 bs/\e=.returned (.tuple #[.agg #[(),(),(),(),(),(),(),.slice none 0 0],(3:Int)])/\Below w w w')
theorem Lz (v:Value) (r:List Int) (w:World) (h:vC w v r) (s:r.length≠32) (t:r.length<=1000000):
 Calls prog 101 #[v] w (Yw r w):=by
 have _:=t;obtain⟨N,a⟩:=zA r.length;obtain⟨q,d,j⟩:∃p d,v=.slice p N d:=by
  rw[a.o];obtain⟨_,⟨l,f,i,rfl⟩|⟨g,o,b,rfl,n⟩⟩:=h
  .exact⟨f,i,by rw[l]⟩
  .exact⟨_,b,rfl⟩
 subst j;rw[<-a.o]at s t;have k:((N:Int)==32)=false:=by rw[xf];omega
 have m:((N:Int) != 32)=true:=by simpa using (by omega:¬(N:Int)=32)
 have c:=Lib.hid s;clear h s;go_enter func101,ntmps101;go_wp2;refine yS (v:=.tuple #[.agg #[(),(),(),(),(),(),(),.slice none 0 0],(3:Int)]) (by simp[results,tL,go_sem]) rfl (zu ⟨fun e=>c.o (by rw[a.o];exact e.1),rfl,?_⟩);exact zB.alloc zL _
def eqB (a b:List Int):Bool:=decide (a=b)
theorem Va (u v:Value) (a b:List Int) (w:World) (h1:vC w u a) (h2:vC w v b) (aa:a.length=b.length) (hl:a.length<=1000000):
 Calls prog 49 #[u,v] w fun e w'=>e=.returned (.bool (eqB a b))/\Below w w w':=by
 obtain⟨N,t⟩:=zA a.length;have m:Hid (N=b.length):=by rw[t.o];exact aa
 obtain⟨p,B,Q,S⟩:∃p B,u=.slice p N B/\Hid (0<N->∃g o,p=some ⟨g,o,none⟩/\∀(j:Nat) (x:Value),(u8s a)[j]?=some x->w.cell? ⟨g,o+j,none⟩=some x):=by
  rw[t.o];obtain⟨_,⟨C,J,K,rfl⟩|⟨g,o,l,rfl,n⟩⟩:=h1
  .exact⟨J,K,by rw[C],fun h=>by omega⟩
  .exact⟨_,l,rfl,fun _=>⟨g,o,rfl,n⟩⟩
 obtain⟨q,cq,R,O⟩:∃p B,v=.slice p N B/\Hid (0<N->∃g o,p=some ⟨g,o,none⟩/\∀(j:Nat) (x:Value),(u8s b)[j]?=some x->w.cell? ⟨g,o+j,none⟩=some x):=by
  rw[m.o];obtain⟨_,⟨C,J,K,rfl⟩|⟨g,o,l,rfl,n⟩⟩:=h2
  .exact⟨J,K,by rw[C],fun h=>by omega⟩
  .exact⟨_,l,rfl,fun _=>⟨g,o,rfl,n⟩⟩
 subst Q R;rw[<-t.o]at hl;clear h1 h2 aa;go_enter func49,ntmps49;go_wp2;go_loopw [13] (fun i wr=>∃k:Nat,k<=N/\i=.int .i64 k/\Hid (a.take k=b.take k)/\Below w w wr) (fun i _=>N-(intOf i).toNat);case atStart=>exact⟨0,ye _,rfl,rfl,zB⟩
 case round=>
  obtain⟨k,V,rfl,M,A⟩:=hrel;by_cases r:k<N
  .obtain⟨g,o,rfl,n⟩:=S.o (by omega);obtain⟨X,o',rfl,f⟩:=O.o (by omega);have s:k<a.length:=(by rw[<-t.o];exact r);have z:k<b.length:=(by rw[<-m.o];exact r);have F:=sJ a k s;have E:=sJ b k z;obtain⟨x,I⟩:=zA (a[k]);obtain⟨y,H⟩:=zA (b[k]);rw[<-I.out]at F;rw[<-H.out]at E;have d:∀{x:Addr} {y:Value},w.cell? x=some y->wr.cell? x=some y:=fun h=>(A.cell (zG h)).trans h;have Z:=d (n _ _ F);have W:=d (f _ _ E);have Y:=Lib.hid n;have P:=Lib.hid f;clear n f F E d;have L:(k:Int)<(N:Int):=(by omega);by_cases c:x=y
   .have G:Hid (a.take (k+1)=b.take (k+1)):=(by show _=_;rw[<-zY s,<-zY z,M.o,<-I.out,<-H.out,c]);subst c;go_wp2
    go_quiet (fail)
    go_wp2;go_roundw;case rel=>exact⟨k+1,by omega,by go_num,G,lw A _⟩
    case measure=>simp[intOf];omega
   .have D:Hid (eqB a b=false):=(by show _=_;unfold eqB;rw[zJ];intro e;apply c;rw[I.out,H.out];subst e;rfl);have U:(x==y)=false:=(by simpa using c);have b2:(x != y)=true:=(by simpa using c);have T:=Lib.hid c;clear c;go_wp2
    go_quiet (fail)
    go_wp2;go_ret;rw[D.o];exact⟨rfl,lw A _⟩
  .have D:Hid (eqB a b=true):=(by show _=_;unfold eqB;rw[yJ];have:=M.o;rw[zv (by rw[<-t.o];omega),zv (by rw[<-m.o];omega)]at this;exact this);go_wp2;go_ret;rw[D.o];exact⟨rfl,A⟩
-- LONG
def TH (bs:List Int) (y0 ym y3 y4 ys y7 y8:Int) (w:World) (e:Ending) (w':World):Prop:=
 (o9 bs/\∃v,e=.returned (.tuple #[.agg #[y0,ym,y3,y4,ys,y7,y8,v],()])/\iY w w' v (ptsN bs)/\Below w w w')\/(¬o9 bs/\e=.returned (.tuple #[.agg #[(),(),(),(),(),(),(),.slice none 0 0],(3:Int)])/\Below w w w')
theorem ma: (prog.info? 59).map (·.size)=some 8:=by kernel_rfl
theorem WQ (a b c d e f g:Int) (v:Value) (i:v.oneCell'=true):(#[Value.int .i64 a,b,c,d,e,f,g,v]:Array Value).all (·.oneCell')=true:=by rw[xZ];intro x h;simp only[List.mem_toArray,yN,yE,qG]at h;rcases h with rfl|rfl|rfl|rfl|rfl|rfl|rfl|rfl<;>first|rfl|exact i
theorem Lh (h:vQ w v P) {g i:Nat} (s:∀n,w.cell? (g,i)≠some (.int .i64 n)) (x:Value):vQ (w.setCell (g,i) x) v P:=by
 obtain⟨o,l⟩:=h;refine⟨o,l.imp id ?_⟩;rintro ⟨p,c,d,m,q⟩;refine⟨p,c,d,m,fun j y a=>?_⟩;have f:=q j y a;have b:∃n,y=.int .i64 n:=by have:=(zy.1 a).1;simp only[ints,yw]at this;rw[mt P j this]at a;exact⟨_,by injection a with a;exact a.symm⟩
 obtain⟨n,rfl⟩:=b;rw[uJ _ _ _ _ (by intro e;injection e with k r;subst k r;exact s n f)];exact f
theorem MA (h:vQ w v P) {g:Nat} (l:∀b,v.ownBlock=some b->b≠g) (cs:Array Value):vQ (w.setRow g cs) v P:=by obtain⟨i,e⟩:=h;refine⟨i,e.imp id ?_⟩;rintro ⟨d,a,c,rfl,k⟩;exact⟨d,a,c,rfl,fun j y f=>(vi (yZ w g d cs (l d rfl))).trans (k j y f)⟩
theorem VT (k m u g s l d:Int) (v:Value) (P:List Int) (w:World) (h:vQ w v P) (e:vL k m u g s l d P=0):
 Calls prog 84 #[.agg #[k,m,u,g,s,l,d,v]] w (WK k m u g s l d P w):=by
 by_cases a:k=0
 .subst a;unfold vL at e;rw[ze rfl]at e;by_cases b:m=0/\u=0/\g=0/\s=0/\l=0/\d=0/\P.length=0
  .obtain⟨rfl,rfl,rfl,rfl,rfl,rfl,c⟩:=b;obtain rfl:P=[]:=yG.1 c;exact Na v w h
  .rw[zb b]at e;cases e
 .exact O9 k m u g s l d v P w h e a
theorem WP (b:vL k m u g s l up P=0):(rM k m u g s l up P).length=32:=by
 unfold rM;by_cases a:k=0
 .rw[ze a,zR]
 .rw[zb a,zl,zl,VS (L6 b a).2.2.2.2.2.2.2.1,zR];rfl
theorem YH {g n cap:Nat} {D:List Int} {t:TypeId} (b:D.length=n) (h:w.heap[g]?=some (.cells (byts D) t)):vC w (g,0,n,cap) D:=by refine⟨by rw[vO,vD],zu ⟨g,0,cap,by rw[b],fun j x a=>?_⟩⟩;rw[yL,zC h];simpa[byts,u8s]using a
theorem M3 (bs:List Int) (gb ob cap:Nat) (y0 y1 y2 y3 y4 y5 y6 y7 y8 ym ys:Int) (w:World) (a5:32<=cap) (aw:vC w (.slice (some (gb,ob)) 32 cap) bs) (ap:∀c,vC w (.slice (some (gb,ob+9)) 16 c) (midB bs)) (hn:bs.length=32) (hx:∀x,x∈bs->0<=x/\x<=255)
 (Hm:Hid (ym=y1+y2*256)) (Hs:Hid (ys=y5+y6*256)) (hG:Hid (o9 bs↔mi (midB bs)/\vL y0 ym y3 y4 ys y7 y8 (ptsN bs)=0/\rM y0 ym y3 y4 ys y7 y8 (ptsN bs)=bs))
 (c0:w.cell? (gb,ob)=some (.int .u8 y0)) (c1:w.cell? (gb,ob+1)=some (.int .u8 y1)) (c2:w.cell? (gb,ob+2)=some (.int .u8 y2)) (c3:w.cell? (gb,ob+3)=some (.int .u8 y3)) (c4:w.cell? (gb,ob+4)=some (.int .u8 y4)) (c5:w.cell? (gb,ob+5)=some (.int .u8 y5)) (c6:w.cell? (gb,ob+6)=some (.int .u8 y6)) (c7:w.cell? (gb,ob+7)=some (.int .u8 y7)) (c8:w.cell? (gb,ob+8)=some (.int .u8 y8))
 (b0:0<=y0) (d0:y0<=255) (b1:0<=y1) (d1:y1<=255) (b2:0<=y2) (d2:y2<=255) (b3:0<=y3) (d3:y3<=255) (b4:0<=y4) (d4:y4<=255) (b5:0<=y5) (d5:y5<=255) (b6:0<=y6) (d6:y6<=255) (b7:0<=y7) (d7:y7<=255) (b8:0<=y8) (d8:y8<=255):
 Calls prog 101 #[.slice (some (gb,ob)) 32 cap] w (TH bs y0 ym y3 y4 ys y7 y8 w):=by
 have aX:gb<w.heap.size:=zG c0;have aV:¬gb=w.heap.size:=by omega
 have am:=Lib.hid aw;have Y:=Lib.hid ap;have HN:=Lib.hid hn;have HX:=Lib.hid hx;clear aw ap hn hx;go_enter func101,ntmps101
 go_upto_region 3 with fail
 go_cut [4] (fun s4 wx=>∃k,s4=.pointer (some ⟨k,0,none⟩)/\w.heap.size<k/\Hid (wx.heap[k]?=some (.cells #[y0,ym,y3,y4,ys,y7,y8,(.slice none 0 0)] 59))/\Hid (wx.heap[w.heap.size]?=some (.cells #[(),(),(),(),(),(),(),.slice none 0 0] 59))/\Below w w wx)
 case first=>
  have aG:IntKind.i64.wrap y0=y0:=zQ _ (by omega);have ay:IntKind.i64.wrap y1=y1:=zQ _ (by omega);have au:IntKind.i64.wrap y2=y2:=zQ _ (by omega);have aB:IntKind.i64.wrap y3=y3:=zQ _ (by omega);have ar:IntKind.i64.wrap y4=y4:=zQ _ (by omega);have a8:IntKind.i64.wrap y5=y5:=zQ _ (by omega);have aq:IntKind.i64.wrap y6=y6:=zQ _ (by omega);have aM:IntKind.i64.wrap y7=y7:=zQ _ (by omega);have aA:IntKind.i64.wrap y8=y8:=zQ _ (by omega);have ah:=zW (y2*256);have ae:=zW (y6*256);have aE:bits .or .i64 y1 (y2*256)=ym:=by rw[ii _ _ b1 d1 b2 d2,Hm.o]
  have a9:bits .or .i64 y5 (y6*256)=ys:=by rw[ii _ _ b5 d5 b6 d6,Hs.o]
  go_region_held3 (fun G=>G.cell? (gb,ob)=some (.int .u8 y0)/\G.cell? (gb,ob+1)=some (.int .u8 y1)/\G.cell? (gb,ob+2)=some (.int .u8 y2)/\G.cell? (gb,ob+3)=some (.int .u8 y3)/\G.cell? (gb,ob+4)=some (.int .u8 y4)/\G.cell? (gb,ob+5)=some (.int .u8 y5)/\G.cell? (gb,ob+6)=some (.int .u8 y6)/\G.cell? (gb,ob+7)=some (.int .u8 y7)/\G.cell? (gb,ob+8)=some (.int .u8 y8)) (go_keep) (fail)
  all_goals
   clear aG ay au aB ar a8 aq aM aA ah ae aE a9;go_wp2_with fail
   go_meet
   case rel =>have e:(w.alloc (.cells #[(),(),(),(),(),(),(),.slice none 0 0] 59)).heap.size=w.heap.size+1:=(by simp);refine⟨w.heap.size+1,rfl,by omega,?_,tf (zT w _) _,((zB.alloc zL _).alloc (by simp) _).drew⟩;have:=zT (w.alloc (.cells #[(),(),(),(),(),(),(),.slice none 0 0] 59)) (.cells #[y0,ym,y3,y4,ys,y7,y8,(.slice none 0 0)] 59);rw[e]at this;exact this
 case rest=>
  obtain⟨k,rfl,bg,H4,HR,hB⟩:=hcut;clear c0 c1 c2 c3 c4 c5 c6 c7 c8;have aJ:Hid (∀c,vC wc (.slice (some (gb,ob+9)) 16 c) (midB bs)):=fun c=>xT.below (Y.o c) hB;have a7:Hid (vC wc (.slice (some (gb,ob)) 32 cap) bs):=xT.below am.o hB;have aP:(25:Int)<=(cap:Int):=by omega
  have av:¬cap=9:=by omega
  have a1:25<=cap:=by omega
  go_wp2_with fail
  refine (OJ _ (midB bs) _ (aJ.o _) (by unfold midB;rw[zi];omega) (fun x hx=>HX.o x (xY (xd hx)))).mono ?_;rintro e m (⟨hg,r,rfl,hI,j,aa⟩|⟨hg,rfl,j⟩)
  .have ab:=Lib.hid hg;have al:Hid (vQ m r (ptsN bs)):=hI;have Z:Hid (m.heap[k]?=some (.cells #[y0,ym,y3,y4,ys,y7,y8,(.slice none 0 0)] 59)):=we j H4.o;have C:Hid (m.heap[w.heap.size]?=some (.cells #[(),(),(),(),(),(),(),.slice none 0 0] 59)):=we j HR.o;have aK:Hid (vC m (.slice (some (gb,ob)) 32 cap) bs):=xT.below a7.o j;have F:=Below.step hB j;obtain⟨f,a,an,az⟩:∃p c,r=.slice p (ptsN bs).length c/\True:=by
    obtain⟨_,⟨h0,a0,c0,rfl⟩|⟨g,o,cap,rfl,hc⟩⟩:=hI
    .exact⟨a0,c0,by rw[show (ptsN bs).length=0 from h0],trivial⟩
    .exact⟨_,cap,rfl,trivial⟩
   obtain⟨d,a6⟩:=zA ((ptsN bs).length);rw[<-a6.o]at an;subst an;have X:Hid (∀b,(Value.slice f d a).ownBlock=some b->w.heap.size<b):=fun b W=>(by have:=aa b W;have:=xL H4.o;omega);clear hg hI j az aa;have x7:=(uI Z.o).2.2.2.2.2.2.2;have fz:m.frozen? (k,7)=false:=zF Z.o;have aT:k<m.heap.size:=xL Z.o;have H6:Hid ((m.setCell (k,7) (f,d,a)).heap[k]?=some (.cells #[y0,ym,y3,y4,ys,y7,y8,(f,d,a)] 59)):=zX _ _ 7 _ _ (f,d,a) Z.o;have E:Hid ((m.setCell (k,7) (f,d,a)).heap[w.heap.size]?=some (.cells #[(),(),(),(),(),(),(),.slice none 0 0] 59)):=(yC _ _ _ _ (by show w.heap.size≠k;omega)).trans C.o;have z:Hid (vQ (m.setCell (k,7) (f,d,a)) (f,d,a) (ptsN bs)):=Lh al.o (fun n h=>by rw[x7]at h;injection h with h;cases h) _;have B:Below w w (m.setCell (k,7) (f,d,a)):=F.setCell (by show w.heap.size<=k;omega) _;have N:Hid (vC (m.setCell (k,7) (f,d,a)) (.slice (some (gb,ob)) 32 cap) bs):=xT.below am.o B
   go_upto_region 8 with fail
   generalize m.setCell (k,7) (f,d,a)=w6 at *
   obtain⟨q0,q1,q2,q3,q4,q5,q6,q7⟩:=uI H6.o;clear x7 fz Z C aK al F;obtain⟨c,Hc⟩:=zD (vL y0 ym y3 y4 ys y7 y8 (ptsN bs));have bi:(ptsN bs).length<=8:=(by have:=KK ab.o.2.1;exact WN this);by_cases s:c=0
   .subst s;go_wp2_with fail
    refine (VT y0 ym y3 y4 ys y7 y8 _ (ptsN bs) _ z.o Hc.o).mono ?_;rintro e D ⟨gp,rfl,bb,aj,i⟩;have H7:Hid (D.heap[k]?=some (.cells #[y0,ym,y3,y4,ys,y7,y8,(f,d,a)] 59)):=we i H6.o;have y:Hid (D.heap[w.heap.size]?=some (.cells #[(),(),(),(),(),(),(),.slice none 0 0] 59)):=we i E.o;have ac:Hid (vQ D (f,d,a) (ptsN bs)):=xT.below z.o i;have ai:Hid (vC D (.slice (some (gb,ob)) 32 cap) bs):=xT.below N.o i;have H:=Below.step B i;have S:=WP Hc.o;have aC:Hid (vC D (.slice (some ⟨gp,0,none⟩) 32 32) (rM y0 ym y3 y4 ys y7 y8 (ptsN bs))):=YH S aj;have ag:=Lib.hid S;clear q0 q1 q2 q3 q4 q5 q6 q7 aj i S H6 E z N B;go_wp2_with fail
    refine (Va _ _ _ bs _ aC.o ai.o (by rw[ag.o,HN.o]) (by rw[ag.o];omega)).mono ?_;obtain⟨q,Hq⟩:=zD (eqB (rM y0 ym y3 y4 ys y7 y8 (ptsN bs)) bs);rw[Hq.o];rintro e J ⟨rfl,u⟩;have H8:Hid (J.heap[k]?=some (.cells #[y0,ym,y3,y4,ys,y7,y8,(f,d,a)] 59)):=we u H7.o;have I:Hid (J.heap[w.heap.size]?=some (.cells #[(),(),(),(),(),(),(),.slice none 0 0] 59)):=we u y.o;have aF:Hid (vQ J (f,d,a) (ptsN bs)):=xT.below ac.o u;have ak:=Below.step H u;clear u H7 y ac ai H;cases q with
    | true=>
     have Q:Hid (o9 bs):=hG.out.2 ⟨ab.o,Hc.o,nA Hq.o⟩;obtain⟨q0,q1,q2,q3,q4,q5,q6,q7⟩:=uI H8.o;have M:Hid ((J.setRow w #[y0,ym,y3,y4,ys,y7,y8,(f,d,a)]).heap[w.heap.size]?=some (.cells #[y0,ym,y3,y4,ys,y7,y8,(f,d,a)] 59)):=yi _ _ _ _ _ _ I.o;have l:Hid (Below w w (J.setRow w #[y0,ym,y3,y4,ys,y7,y8,(f,d,a)])):=W8 ak zL _;have a2:Hid (vQ (J.setRow w #[y0,ym,y3,y4,ys,y7,y8,(f,d,a)]) (f,d,a) (ptsN bs)):=MA aF.o (fun b W=>by have:=X.o b W;omega) _;go_wp2_with (refine yD rfl 59 (.tmp 2) (.tmp 78) rfl w #[y0,ym,y3,y4,ys,y7,y8,(f,d,a)] rfl rfl 59 _ I.o ma rfl (WQ _ _ _ _ _ _ _ _ rfl) ?_)
     obtain⟨L,T,U,R,K,P,V,O⟩:=uI M.o;refine yS (v:=.tuple #[.agg #[y0,ym,y3,y4,ys,y7,y8,(f,d,a)],()]) (by simp[results,tL,go_sem,L,T,U,R,K,P,V,O]) rfl (zt ⟨Q.o,_,rfl,⟨a2.o,fun b W=>nU (X.o b W)⟩,l.o⟩)
    | false=>
     have A:Hid (¬o9 bs):=fun t=>(by have:=(hG.out.1 t).2.2;exact yb (yf this) (by have:=Hq.o;unfold eqB at this;rw[this];simp));have M:Hid ((J.setRow w #[(),(),(),(),(),(),(),.slice none 0 0]).heap[w.heap.size]?=some (.cells #[(),(),(),(),(),(),(),.slice none 0 0] 59)):=yi _ _ _ _ _ _ I.o;have l:Hid (Below w w (J.setRow w #[(),(),(),(),(),(),(),.slice none 0 0])):=W8 ak zL _;go_wp2_with (refine yD rfl 59 (.tmp 2) (.tmp 77) rfl w #[(),(),(),(),(),(),(),.slice none 0 0] rfl rfl 59 _ I.o ma rfl (WQ _ _ _ _ _ _ _ _ rfl) ?_)
     obtain⟨L,T,U,R,K,P,V,O⟩:=uI M.o;refine yS (v:=.tuple #[.agg #[(),(),(),(),(),(),(),.slice none 0 0],(3:Int)]) (by simp[results,tL,go_sem,L,T,U,R,K,P,V,O]) rfl (zu ⟨A.o,rfl,l.o⟩)
   .have A:Hid (¬o9 bs):=fun t=>s (by rw[<-Hc.o];exact (hG.out.1 t).2.1);have n1:(c==0)=false:=(by simpa using s);have n2:(c != 0)=true:=(by simpa using s);have aW:=Lib.hid s;clear s;go_wp2_with fail
    refine (Pe y0 ym y3 y4 ys y7 y8 _ (ptsN bs) _ z.o (by omega) c Hc n2).mono ?_;rintro e D ⟨rfl,i⟩;have y:Hid (D.heap[w.heap.size]?=some (.cells #[(),(),(),(),(),(),(),.slice none 0 0] 59)):=we i E.o;have H:=Below.step B i;clear q0 q1 q2 q3 q4 q5 q6 q7 i H6 E z N B;have M:Hid ((D.setRow w #[(),(),(),(),(),(),(),.slice none 0 0]).heap[w.heap.size]?=some (.cells #[(),(),(),(),(),(),(),.slice none 0 0] 59)):=yi _ _ _ _ _ _ y.o;have l:Hid (Below w w (D.setRow w #[(),(),(),(),(),(),(),.slice none 0 0])):=W8 H zL _;go_wp2_with (refine yD rfl 59 (.tmp 2) (.tmp 77) rfl w #[(),(),(),(),(),(),(),.slice none 0 0] rfl rfl 59 _ y.o ma rfl (WQ _ _ _ _ _ _ _ _ rfl) ?_)
    obtain⟨L,T,U,R,K,P,V,O⟩:=uI M.o;refine yS (v:=.tuple #[.agg #[(),(),(),(),(),(),(),.slice none 0 0],(3:Int)]) (by simp[results,tL,go_sem,L,T,U,R,K,P,V,O]) rfl (zu ⟨A.o,rfl,l.o⟩)
  .have A:Hid (¬o9 bs):=fun t=>hg t.2.1;have C:Hid (m.heap[w.heap.size]?=some (.cells #[(),(),(),(),(),(),(),.slice none 0 0] 59)):=we j HR.o;have F:=Below.step hB j;clear hg j;have M:Hid ((m.setRow w #[(),(),(),(),(),(),(),.slice none 0 0]).heap[w.heap.size]?=some (.cells #[(),(),(),(),(),(),(),.slice none 0 0] 59)):=yi _ _ _ _ _ _ C.o;have l:Hid (Below w w (m.setRow w #[(),(),(),(),(),(),(),.slice none 0 0])):=W8 F zL _;go_wp2_with (refine yD rfl 59 (.tmp 2) (.tmp 61) rfl w #[(),(),(),(),(),(),(),.slice none 0 0] rfl rfl 59 _ C.o ma rfl (WQ _ _ _ _ _ _ _ _ rfl) ?_)
   obtain⟨L,T,U,R,K,P,V,O⟩:=uI M.o;refine yS (v:=.tuple #[.agg #[(),(),(),(),(),(),(),.slice none 0 0],(3:Int)]) (by simp[results,tL,go_sem,L,T,U,R,K,P,V,O]) rfl (zu ⟨A.o,rfl,l.o⟩)
theorem YY (p:vL k m u g s l up P=0):∀x,x∈rM k m u g s l up P->0<=x/\x<=255:=by
 intro x a;unfold rM at a;by_cases b:k=0
 .rw[ze b]at a;have:=x9 a;omega
 .obtain⟨h,j,n,o,e,i,d,c,f⟩:=L6 p b;rw[zb b]at a;rcases yv.1 a with a|a
  .rcases yv.1 a with a|a
   .simp only[yN,yE,qG]at a;omega
   .exact L8 c x a
  .have:=x9 a;omega
theorem Mf (v:Value) (A:List Int) (w:World) (h:vC w v A) (D:A.length<=1000000) (C:∀x,x∈A->0<=x/\x<=255) (B:∃p c,v=.slice p A.length c/\A.length<=c):
 Calls prog 101 #[v] w (Yw A w):=by
 by_cases i:A.length=32
 .have r:=h;obtain⟨_,⟨z,_⟩|⟨l,m,o,rfl,s⟩⟩:=h
  .omega
  obtain⟨p,c,u,f⟩:=B;injection u with _ _ q;subst q;rw[i]at f;have a:∀j,j<32->w.cell? ⟨l,m+j,none⟩=some (.int .u8 (A.getD j 0)):=fun j n=>by have:=s j _ (sJ A j (by omega));rw[this,zh,zf (by omega)];rfl
  have b:∀j,j<32->0<=A.getD j 0/\A.getD j 0<=255:=fun j n=>by rw[zh,zf (by omega)];exact C _ (zz _)
  have k:∀c,vC w (.slice (some (l,m+9)) 16 c) (midB A):=fun c=>by have g:(midB A).length=16:=(by unfold midB;rw[zi,yx];omega);refine⟨by rw[vO,vD],zu ⟨l,m+9,c,by rw[g],fun j x d=>?_⟩⟩;have n:=(zy.1 d).1;rw[vO,g]at n;rw[yA];refine s (9+j) x ?_;unfold midB at d;rw[od,mr,zI,ze n,yo]at d;exact d
  rw[i]at r ⊢;refine (M3 A l m o _ _ _ _ _ _ _ _ _ (A.getD 1 0+A.getD 2 0*256) (A.getD 5 0+A.getD 6 0*256) w f r k i C rfl rfl ⟨fun h=>⟨h.2.1,h.2.2.1,h.2.2.2⟩,fun h=>⟨i,h.1,h.2.1,h.2.2⟩⟩ (a 0 (by omega)) (a 1 (by omega)) (a 2 (by omega)) (a 3 (by omega)) (a 4 (by omega)) (a 5 (by omega)) (a 6 (by omega)) (a 7 (by omega)) (a 8 (by omega))
   (b 0 (by omega)).1 (b 0 (by omega)).2 (b 1 (by omega)).1 (b 1 (by omega)).2 (b 2 (by omega)).1 (b 2 (by omega)).2 (b 3 (by omega)).1 (b 3 (by omega)).2 (b 4 (by omega)).1 (b 4 (by omega)).2 (b 5 (by omega)).1 (b 5 (by omega)).2 (b 6 (by omega)).1 (b 6 (by omega)).2 (b 7 (by omega)).1 (b 7 (by omega)).2 (b 8 (by omega)).1 (b 8 (by omega)).2).mono fun e y t=>?_
  exact t
 .exact Lz v A w h i D
-- NOTED
theorem Nw (h:vQ w v P) (n:Nat) (i:n=P.length):∃p c,v=.slice p n c:=by
 subst i;obtain⟨_,⟨e,b,d,rfl⟩|⟨g,o,a,rfl,f⟩⟩:=h
 .exact⟨b,d,by rw[e]⟩
 .exact⟨_,a,rfl⟩
