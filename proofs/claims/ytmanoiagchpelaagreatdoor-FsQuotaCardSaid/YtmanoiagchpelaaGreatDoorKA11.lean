import Derived.Test.YtmanoiagchpelaaGreatDoorKA8
import Derived.Deep.OwnRows
import Derived.Deep.DeepCutAuto
import Derived.Laws.Bits64b
set_option maxHeartbeats 0
set_option linter.all false
set_option maxRecDepth 100000
namespace Go.Proofs.YtmanoiagchpelaaGreatDoor
open Go.Proofs.Tryz Go.RowKit
variable {B b1 b2:Nat} {L P:List Int} {W w w2:World} {g k l m s u up:Int} {o1 o2:Obj} {v:Value}
theorem Sb (n):madeCells #[Value.int .u8 0] n=(u8s (List.replicate n 0)).toArray:=by
 apply xa;intro i;unfold madeCells u8s;by_cases h:i<n
 .simp[h,qK]
 .simp[h]
theorem jB (n:Nat) (x:Int) (a:x=n) (b:n<=1000000) (W):(Instr.makeSlice 56 (.int .i64 x) (.int .i64 x)).run prog W=.ok (.slice (some ⟨W.heap.size,0,none⟩) n n) (W.alloc (.cells (u8s (List.replicate n 0)).toArray 5)):=by subst a;rw[<-Sb];exact run_make_row' 56 5 (.int .u8 0) 1 u8sT fW rfl .i64 .i64 n (by omega) (by omega) W
section
variable {w : World} {gd gs gn : Nat} {wt : Value} {E : List (Nat×Value)} {st : Dk} {L k : Nat} {F : Nat->Prop}
end
def rV (k m u g s l up:Int) (P:List Int):List Int:=
 if k=0 then List.replicate 32 0 else [k,m%256,m / 256,u,g,s%256,s / 256,l,up]++sB (ofE P)++List.replicate 7 0
theorem Yn (W):(Instr.makeSlice 56 (.int .i64 32) (.int .i64 32)).run prog W=.ok (.slice (some ⟨W.heap.size,0,none⟩) 32 32) (W.alloc (.cells (byts (List.replicate 32 0)) 5)):=by kernel_rfl
theorem PU (k m u g s l up) (v) (P) (w) (h:vT w v P) (i:P.length<=1000000) (c) (j:Hid (vL k m u g s l up P=c)) (n:(c != 0)=true):
 Calls prog 108 #[.agg #[.int .i64 k,.int .i64 m,.int .i64 u,.int .i64 g,.int .i64 s,.int .i64 l,.int .i64 up,v]] w fun e w'=>e=.returned (.tuple #[.slice none 0 0,.int .i64 c])/\Below w w w':=by
 have b:Hid (∀o,Below w w (w.alloc o)):=fun o=>zB.alloc zL o;have H:Hid (∀o,vT (w.alloc o) v P):=fun o=>wh.below h (b.o o);clear h;go_enter func108,ntmps108;go_wp2_with fail
 refine (UH k m u g s l up v P _ (H.o _) i).mono ?_;rw[j.out];rintro e f ⟨rfl,a⟩;have d:=zf (b.o _) a;clear a;go_wp2;go_ret2;exact⟨rfl,d⟩
def VE (k m u g s l up:Int) (P:List Int) (w:World) (e:Ending) (w':World):Prop:=
 ∃b,e=.returned (.tuple #[.slice (some ⟨b,0,none⟩) 32 32,()])/\w.heap.size<=b/\w'.heap[b]?=some (.cells (byts (rV k m u g s l up P)) 5)/\Below w w w'
theorem NV (v) (w) (h:vT w v []):
 Calls prog 108 #[.agg #[(),(),(),(),(),(),(),v]] w (VE 0 0 0 0 0 0 0 [] w):=by
 have i:Hid (∀o,Below w w (w.alloc o)):=fun o=>zB.alloc zL o;have H:Hid (∀o,vT (w.alloc o) v []):=fun o=>wh.below h (i.o o);obtain⟨j,f⟩:=zA (byts (List.replicate 32 0));have l:∀W,(Instr.makeSlice 56 (.int .i64 32) (.int .i64 32)).run prog W=.ok (.slice (some ⟨W.heap.size,0,none⟩) 32 32) (W.alloc (.cells j 5)):=fun W=>by rw[f.o];exact Yn W
 clear h;go_enter func108,ntmps108;go_wp2_with fail
 refine (UH 0 0 0 0 0 0 0 v [] _ (H.o _) (by simp)).mono ?_;have g:vL 0 0 0 0 0 0 0 []=0:=rfl;rw[g];rintro e c ⟨rfl,a⟩;have d:=zf (i.o _) a;have b:=wy a (zT w _);have n:=(uT b).1;have k:=xR b;have m:Hid ((c.alloc (.cells j 5)).heap[c.heap.size]?=some (.cells (byts (rV 0 0 0 0 0 0 0 [])) 5)):=by
  have e:rV 0 0 0 0 0 0 0 []=List.replicate 32 0:=by unfold rV;rw[ze rfl]
  rw[e,<-f.o];exact zH
 clear a g b;go_wp2;go_ret2;exact⟨c.heap.size,rfl,d.size,m.o,d.alloc d.size _⟩
-- GOOD
theorem QV (l) (i) (x):(byts l).setIfInBounds i (.int .u8 x)=byts (l.set i x):=by unfold byts;rw[zK,th]
theorem KF (h:vL k m u g s l up P=0) (f:¬k=0):
 (1<=k/\k<=3)/\(0<=m/\m<=511)/\(0<=u/\u<=255)/\(0<=g/\g<=255)/\(0<=s/\s<=512)/\(0<=l/\l<=200)/\(0<=up/\up<=32)/\tY P=0/\P.length=sg s:=by
 unfold vL at h;rw[zb f]at h;by_cases c:k<0\/3<k\/m<0\/511<m\/u<0\/255<u\/g<0\/255<g\/l<0\/200<l
 .rw[ze c]at h;cases h
 rw[zb c]at h;by_cases b:s<0\/512<s
 .rw[ze b]at h;cases h
 rw[zb b]at h;by_cases d:(k=2/\(up<1\/32<up))\/(k≠2/\up≠0)
 .rw[ze d]at h;cases h
 rw[zb d]at h;by_cases a:tY P≠0
 .rw[ze a]at h;exact zY h a
 rw[zb a]at h;by_cases e:(P.length:Int)≠sg s
 .rw[ze e]at h;cases h
 refine⟨by omega,by omega,by omega,by omega,by omega,by omega,by omega,by omega,by omega⟩
def l5 (L:List Int) (y0 y1 y2 y3 y4:Int):List Int:=((((L.set 0 y0).set 1 y1).set 2 y2).set 3 y3).set 4 y4
def l4 (L:List Int) (y5 y6 y7 y8:Int):List Int:=(((L.set 5 y5).set 6 y6).set 7 y7).set 8 y8
def pV (w:World) (b2 B b1:Nat) (o1 o2:Obj) (L:List Int) (W:World):Prop:=
 W.heap[B]?=some (.cells (byts L) 5)/\W.heap[b1]?=some o1/\W.heap[b2]?=some o2/\Below w w W
theorem pV.set (h:pV w b2 B b1 o1 o2 L W) (a:b1≠B) (b:b2≠B) (c:w.heap.size<=B) (i) (y):pV w b2 B b1 o1 o2 (L.set i y) (W.setCell ⟨B,i,none⟩ (.int .u8 y)):=by refine⟨?_,(yE _ _ _ b1 a).trans h.2.1,(yE _ _ _ b2 b).trans h.2.2.1,h.2.2.2.setCell c _⟩;have:=yb _ _ i _ _ (.int .u8 y) h.1;rw[QV]at this;exact this
theorem pV.drew (h:pV w b2 B b1 o1 o2 L W):pV w b2 B b1 o1 o2 L W.drew:=⟨h.1,h.2.1,h.2.2.1,h.2.2.2.drew⟩
theorem Tk (h:pV w b2 B b1 o1 o2 L w2) (a:b1≠B) (b:b2≠B) (c:w.heap.size<=B) (y0 y1 y2 y3 y4):pV w b2 B b1 o1 o2 (l5 L y0 y1 y2 y3 y4) (((((w2.setCell (B,0) (.int .u8 y0)).setCell (B,1) (.int .u8 y1)).setCell (B,2) (.int .u8 y2)).setCell (B,3) (.int .u8 y3)).setCell (B,4) (.int .u8 y4)).drew:=
 (((((h.set a b c 0 y0).set a b c 1 y1).set a b c 2 y2).set a b c 3 y3).set a b c 4 y4).drew
theorem Tl (h:pV w b2 B b1 o1 o2 L w2) (a:b1≠B) (b:b2≠B) (c:w.heap.size<=B) (y0 y1 y2 y3):pV w b2 B b1 o1 o2 (l4 L y0 y1 y2 y3) ((((w2.setCell (B,5) (.int .u8 y0)).setCell (B,6) (.int .u8 y1)).setCell (B,7) (.int .u8 y2)).setCell (B,8) (.int .u8 y3)).drew:=
 ((((h.set a b c 5 y0).set a b c 6 y1).set a b c 7 y2).set a b c 8 y3).drew
theorem pV.zero {y0 y1 y2 y3 y4:Int} (h:pV w b2 B b1 o1 o2 (l5 (List.replicate 32 0) y0 y1 y2 y3 y4) W) (j) (b:5<=j) (a:j<32):W.cell? ⟨B,j,none⟩=some (.int .u8 0):=by rw[zC h.1];unfold byts l5;rw[xM,xF,wO (by omega),wO (by omega),wO (by omega),wO (by omega),wO (by omega),xf,ze a];rfl
theorem pV.free (h:pV w b2 B b1 o1 o2 L W) (j):W.frozen? ⟨B,j,none⟩=false:=zF h.1
theorem VZ {a:World} (h:Below B a w) {g:Nat} (c:B<=g) (cs):Below B a (w.setRow g cs):=
 ⟨h.os,h.tape,h.output,by simpa using h.size,fun i b=>(xh w g i cs (by omega)).trans (h.block i b)⟩
theorem RC (_hp:(sB (ofE P)).length=16) (a:¬k=0):
 ((byts (l4 (l5 (List.replicate 32 0) k (m%256) (m / 256) u g) (s%256) (s / 256) l up)).toList.take 9++u8s (sB (ofE P))++(byts (l4 (l5 (List.replicate 32 0) k (m%256) (m / 256) u g) (s%256) (s / 256) l up)).toList.drop (9+16)).toArray=byts (rV k m u g s l up P):=by
 unfold rV;rw[zb a];unfold byts;rw[yy,yy];rfl
theorem NU (k m u g s l up) (v) (P) (w) (h:vT w v P) (hr:vL k m u g s l up P=0) (hk:¬k=0):
 Calls prog 108 #[.agg #[.int .i64 k,.int .i64 m,.int .i64 u,.int .i64 g,.int .i64 s,.int .i64 l,.int .i64 up,v]] w (VE k m u g s l up P w):=by
 obtain⟨⟨k0,k1⟩,⟨m0,m1⟩,⟨u0,u1⟩,⟨g0,g1⟩,⟨s0,s1⟩,⟨l0,l1⟩,⟨an,a5⟩,C,ad⟩:=KF hr hk;clear ad;have S:Hid (∀o,Below w w (w.alloc o)):=fun o=>zB.alloc zL o;have H:Hid (∀o,vT (w.alloc o) v P):=fun o=>wh.below h (S.o o);obtain⟨O,Y⟩:=zA (byts (List.replicate 32 0));have ab:∀W,(Instr.makeSlice 56 (.int .i64 32) (.int .i64 32)).run prog W=.ok (.slice (some ⟨W.heap.size,0,none⟩) 32 32) (W.alloc (.cells O 5)):=fun W=>by rw[Y.o];exact Yn W
 have HR:=za hr;have t:=za C;have ao:(k==0)=false:=by simpa using hk
 have a0:(k != 0)=true:=by simpa using hk
 have HK:=za hk;clear h hr C hk;go_enter func108,ntmps108;go_wp2_with fail
 refine (UH k m u g s l up v P _ (H.o _) (by have:=VH t.o;omega)).mono ?_;rw[HR.o];rintro e z ⟨rfl,p⟩;have q:=zf (S.o _) p;have K:=wy p (zT w (.cells #[k,m,u,g,s,l,up,v] 123));have H1:Hid (∀o,vT (z.alloc o) v P):=fun o=>wh.below (wh.below (H.o _) p) (zB.alloc zL o);have Q1:=za K;have c0:=(uT K).1;have c7:=(uT K).2.2.2.2.2.2.2;have D:=xR K;clear K p;go_wp2_with fail
 refine (KG _ P _ (H1.o _) t.o).mono ?_;rintro e w2 ⟨r,rfl,ai,G,i⟩;have q2:=wy i (tA Q1.out (.cells O 5));have M:=wy i (zT z (.cells O 5));have E:=zf (q.alloc q.size _) i;have J:=za G;have F:z.heap.size<r:=by have:(z.alloc (.cells O 5)).heap.size=z.heap.size+1:=(by simp);omega
 have L:=xR M;obtain⟨B,HB⟩:=zA z.heap.size;rw[<-HB.o]at M L F ⊢;have R:=za M;have N:Hid (pV w r B w (.cells #[k,m,u,g,s,l,up,v] 123) (.cells (byts (sB (ofE P))) 5) (List.replicate 32 0) w2):=⟨by rw[<-Y.o];exact M,q2,J.o,E⟩;obtain⟨X,d1,Q,Z,d4,d5,V,T⟩:=uT q2;have A:¬w.heap.size=B:=by rw[HB.o];omega
 have f:w.heap.size<=B:=by rw[HB.o];omega
 have b:∀j,j<32->w2.cell? ⟨B,j,none⟩=some (.int .u8 0):=fun j hj=>by rw[zC R.out,Y.o];unfold byts;rw[xM,xF,xf,ze hj];rfl
 have x0:=b 0 (by omega);have x1:=b 1 (by omega);have x2:=b 2 (by omega);have x3:=b 3 (by omega);have x4:=b 4 (by omega);have y:∀j,w2.frozen? ⟨B,j,none⟩=false:=fun j=>zF R.out;have f0:=y 0;have f1:=y 1;have f2:=y 2;have f3:=y 3;have f4:=y 4;clear c0 c7 M q2 G i b y ab ai E q R J Q1 H1 S H D
 go_upto_region 10 with fail
 go_cut [5] (fun s5 U=>s5=.slice (some ⟨B,0,none⟩) 32 32/\Hid (pV w r B w (.cells #[k,m,u,g,s,l,up,v] 123) (.cells (byts (sB (ofE P))) 5) (l5 (List.replicate 32 0) k (m%256) (m / 256) u g) U))
 case first=>
  go_region
  all_goals
   go_wp2_with fail
   go_meet
   case rel=>exact⟨rfl,Tk N.o A (by omega) f k (m%256) (m / 256) u g⟩
 case rest=>
  obtain⟨rfl,a⟩:=hcut;clear X d1 Q Z d4 d5 V T x0 x1 x2 x3 x4 f0 f1 f2 f3 f4 N;obtain⟨X,d1,Q,Z,d4,d5,V,T⟩:=uT a.o.2.1;have x5:=a.o.zero 5 (by omega) (by omega);have x6:=a.o.zero 6 (by omega) (by omega);have x7:=a.o.zero 7 (by omega) (by omega);have x8:=a.o.zero 8 (by omega) (by omega);have f5:=a.o.free 5;have f6:=a.o.free 6;have f7:=a.o.free 7;have f8:=a.o.free 8
  go_upto_region 11 with fail
  go_cut [5] (fun s5 U=>s5=.slice (some ⟨B,0,none⟩) 32 32/\Hid (pV w r B w (.cells #[k,m,u,g,s,l,up,v] 123) (.cells (byts (sB (ofE P))) 5) (l4 (l5 (List.replicate 32 0) k (m%256) (m / 256) u g) (s%256) (s / 256) l up) U))
  case first=>
   go_region
   all_goals
    go_wp2_with fail
    go_meet
    case rel=>exact⟨rfl,Tl a.o A (by omega) f (s%256) (s / 256) l up⟩
  case rest=>
   obtain⟨rfl,n⟩:=hcut;clear X d1 Q Z d4 d5 V T x5 x6 x7 x8 f5 f6 f7 f8 a;go_wp2_with fail
   have c:=UK t.o;have d:=rP (P:=prog) wc 56 56 3 5 B 9 23 23 ⟨r,0,none⟩ 16 16 _ 5 (u8s (sB (ofE P))) (by kernel_rfl) (by kernel_rfl) n.o.1 (by rw[uo,c];rfl)
    (fun j x hx=>by have I:(⟨r,0,none⟩:Addr).add j=⟨r,j,none⟩:=(by unfold Addr.add;split<;>simp_all);rw[I,zC n.o.2.2.1];unfold byts;rw[xM];exact hx) (by rw[uo,c];simp[byts,l4,l5]) (mG _)
   rw[uo,c,RC c HK.o]at d;have HP:Hid (VE k m u g s l up P w (.returned (.tuple #[.slice (some ⟨B,0,none⟩) 32 32,()])) (wc.setRow B (byts (rV k m u g s l up P)))):=
    ⟨B,rfl,f,yh _ _ _ _ _ _ n.o.1,VZ n.o.2.2.2 f _⟩
   rw[d];clear d c;go_wp2;go_ret2;exact HP.o
theorem or_nat (a b:Nat) (g:a<256) (h:b<256):bits .or .i64 a (b*256)=a+b*256:=by
 have d:(b*256)=((b*256:Nat):Int):=by omega
 have c:(BitVec.ofInt 64 a).toNat=a:=by rw[qP,BitVec.toNat_ofNat];exact vz (by omega)
 have f:(BitVec.ofInt 64 ((b*256:Nat))).toNat=b*256:=by rw[qP,BitVec.toNat_ofNat];exact vz (by omega)
 rw[d];show IntKind.i64.wrap ((BitVec.ofInt 64 (a:Int) ||| BitVec.ofInt 64 ((b*256:Nat):Int)).toNat:Int)=_;have e:a ||| b*256=b*256+a:=by have:=Nat.shiftLeft_add_eq_or_of_lt (i:=8) (b:=a) (by omega) b;rw[Nat.shiftLeft_eq]at this;rw[Nat.or_comm];exact this.symm
 rw[BitVec.toNat_or,c,f,e,zQ _ (by omega)];omega
theorem iH (a b) (c:0<=a) (d:a<=255) (e:0<=b) (f:b<=255):bits .or .i64 a (b*256)=a+b*256:=by have:=or_nat a.toNat b.toNat (by omega) (by omega);rw[vK c,vK e]at this;exact this
def midB (bs:List Int):List Int:=(bs.drop 9).take 16
def ptsN (bs:List Int):List Int:=(rK (midB bs)).1
def mh (bs:List Int):Prop:=bs.length=32/\mi (midB bs)/\vL (bs.getD 0 0) (bs.getD 1 0+bs.getD 2 0*256) (bs.getD 3 0) (bs.getD 4 0) (bs.getD 5 0+bs.getD 6 0*256) (bs.getD 7 0) (bs.getD 8 0) (ptsN bs)=0 /\
 rV (bs.getD 0 0) (bs.getD 1 0+bs.getD 2 0*256) (bs.getD 3 0) (bs.getD 4 0) (bs.getD 5 0+bs.getD 6 0*256) (bs.getD 7 0) (bs.getD 8 0) (ptsN bs)=bs
def gI (B:Nat) (w:World) (v:Value) (P:List Int):Prop:=vT w v P/\∀b,v.ownBlock=some b->B<=b
def Xd (bs:List Int) (w:World) (e:Ending) (w':World):Prop:=
 (mh bs/\∃v,e=.returned (.tuple #[.agg #[.int .i64 (bs.getD 0 0),.int .i64 (bs.getD 1 0+bs.getD 2 0*256),.int .i64 (bs.getD 3 0),.int .i64 (bs.getD 4 0),.int .i64 (bs.getD 5 0+bs.getD 6 0*256),.int .i64 (bs.getD 7 0),.int .i64 (bs.getD 8 0),v],()])/\gI w w' v (ptsN bs)/\Below w w w') \/
 (¬mh bs/\e=.returned (.tuple #[.agg #[(),(),(),(),(),(),(),.slice none 0 0],(3:Int)])/\Below w w w')
theorem Kg (v) (bs) (w) (h:vQ w v bs) (r:bs.length≠32) (s:bs.length<=1000000):
 Calls prog 133 #[v] w (Xd bs w):=by
 have _:=s;obtain⟨N,a⟩:=zA bs.length;obtain⟨q,d,j⟩:∃p d,v=.slice p N d:=by
  rw[a.o];obtain⟨_,⟨l,f,i,rfl⟩|⟨g,o,b,rfl,n⟩⟩:=h
  .exact⟨f,i,by rw[l]⟩
  .exact⟨_,b,rfl⟩
 subst j;rw[<-a.o]at r s;have k:((N:Int)==32)=false:=by rw[xr];omega
 have m:((N:Int) != 32)=true:=by simpa using (by omega:¬(N:Int)=32)
 have c:=za r;clear h r;go_enter func133,ntmps133;go_wp2;refine yV (v:=.tuple #[.agg #[(),(),(),(),(),(),(),.slice none 0 0],(3:Int)]) (by simp[results,tW,go_sem]) rfl (zu ⟨fun e=>c.o (by rw[a.o];exact e.1),rfl,?_⟩);exact zB.alloc zL _
def eqB (a b:List Int):Bool:=decide (a=b)
theorem V1 (u v) (a b) (w) (h1:vQ w u a) (h2:vQ w v b) (aa:a.length=b.length) (hl:a.length<=1000000):
 Calls prog 94 #[u,v] w fun e w'=>e=.returned (.bool (eqB a b))/\Below w w w':=by
 obtain⟨N,t⟩:=zA a.length;have m:Hid (N=b.length):=by rw[t.o];exact aa
 obtain⟨p,B,Q,S⟩:∃p B,u=.slice p N B/\Hid (0<N->∃g o,p=some ⟨g,o,none⟩/\∀(j:Nat) (x:Value),(u8s a)[j]?=some x->w.cell? ⟨g,o+j,none⟩=some x):=by
  rw[t.o];obtain⟨_,⟨C,J,K,rfl⟩|⟨g,o,l,rfl,n⟩⟩:=h1
  .exact⟨J,K,by rw[C],fun h=>by omega⟩
  .exact⟨_,l,rfl,fun _=>⟨g,o,rfl,n⟩⟩
 obtain⟨q,cq,R,O⟩:∃p B,v=.slice p N B/\Hid (0<N->∃g o,p=some ⟨g,o,none⟩/\∀(j:Nat) (x:Value),(u8s b)[j]?=some x->w.cell? ⟨g,o+j,none⟩=some x):=by
  rw[m.o];obtain⟨_,⟨C,J,K,rfl⟩|⟨g,o,l,rfl,n⟩⟩:=h2
  .exact⟨J,K,by rw[C],fun h=>by omega⟩
  .exact⟨_,l,rfl,fun _=>⟨g,o,rfl,n⟩⟩
 subst Q R;rw[<-t.o]at hl;clear h1 h2 aa;go_enter func94,ntmps94;go_wp2;go_loopw [13] (fun i wr=>∃k:Nat,k<=N/\i=.int .i64 k/\Hid (a.take k=b.take k)/\Below w w wr) (fun i _=>N-(intOf i).toNat);case atStart=>exact⟨0,ye _,rfl,rfl,zB⟩
 case round=>
  obtain⟨k,V,rfl,M,A⟩:=hrel;by_cases r:k<N
  .obtain⟨g,o,rfl,n⟩:=S.o (by omega);obtain⟨X,o',rfl,f⟩:=O.o (by omega);have s:k<a.length:=(by rw[<-t.o];exact r);have z:k<b.length:=(by rw[<-m.o];exact r);have F:=qg a k s;have E:=qg b k z;obtain⟨x,I⟩:=zA (a[k]);obtain⟨y,H⟩:=zA (b[k]);rw[<-I.out]at F;rw[<-H.out]at E;have d:∀{x} {y},w.cell? x=some y->wr.cell? x=some y:=fun h=>(A.cell (zG h)).trans h;have Z:=d (n _ _ F);have W:=d (f _ _ E);have Y:=za n;have P:=za f;clear n f F E d;have L:k<(N:Int):=(by omega);by_cases c:x=y
   .have G:Hid (a.take (k+1)=b.take (k+1)):=(by show _=_;rw[<-zR s,<-zR z,M.o,<-I.out,<-H.out,c]);subst c;go_wp2
    go_quiet (fail)
    go_wp2;go_roundw;case rel=>exact⟨k+1,by omega,by go_num,G,lG A _⟩
    case measure=>simp[intOf];omega
   .have D:Hid (eqB a b=false):=(by show _=_;unfold eqB;rw[zM];intro e;apply c;rw[I.out,H.out];subst e;rfl);have U:(x==y)=false:=(by simpa using c);have b2:(x != y)=true:=(by simpa using c);have T:=za c;clear c;go_wp2
    go_quiet (fail)
    go_wp2;go_ret;rw[D.o];exact⟨rfl,lG A _⟩
  .have D:Hid (eqB a b=true):=(by show _=_;unfold eqB;rw[yJ];have:=M.o;rw[zv (by rw[<-t.o];omega),zv (by rw[<-m.o];omega)]at this;exact this);go_wp2;go_ret;rw[D.o];exact⟨rfl,A⟩
-- LONG
def SK (bs:List Int) (y0 ym y3 y4 ys y7 y8:Int) (w:World) (e:Ending) (w':World):Prop:=
 (mh bs/\∃v,e=.returned (.tuple #[.agg #[y0,ym,y3,y4,ys,y7,y8,v],()])/\gI w w' v (ptsN bs)/\Below w w w')\/(¬mh bs/\e=.returned (.tuple #[.agg #[(),(),(),(),(),(),(),.slice none 0 0],(3:Int)])/\Below w w w')
theorem ma: (prog.info? 123).map (·.size)=some 8:=by kernel_rfl
theorem VL (a b c d e f g) (v) (i:v.oneCell'=true):(#[Value.int .i64 a,.int .i64 b,.int .i64 c,.int .i64 d,.int .i64 e,.int .i64 f,.int .i64 g,v]).all (·.oneCell')=true:=by rw[we];intro x h;simp only[List.mem_toArray,yD,yK,qH]at h;rcases h with rfl|rfl|rfl|rfl|rfl|rfl|rfl|rfl<;>first|rfl|exact i
theorem LZ (h:vT w v P) {g i:Nat} (s:∀n,w.cell? (g,i)≠some (.int .i64 n)) (x):vT (w.setCell (g,i) x) v P:=by
 obtain⟨o,l⟩:=h;refine⟨o,l.imp id ?_⟩;rintro ⟨p,c,d,m,q⟩;refine⟨p,c,d,m,fun j y a=>?_⟩;have f:=q j y a;have b:∃n,y=.int .i64 n:=by have:=(zJ.1 a).1;simp only[ints,yp]at this;rw[mu P j this]at a;exact⟨_,by injection a with a;exact a.symm⟩
 obtain⟨n,rfl⟩:=b;rw[uP _ _ _ _ (by intro e;injection e with k r;subst k r;exact s n f)];exact f
theorem Lf (h:vT w v P) {g:Nat} (l:∀b,v.ownBlock=some b->b≠g) (cs):vT (w.setRow g cs) v P:=by obtain⟨i,e⟩:=h;refine⟨i,e.imp id ?_⟩;rintro ⟨d,a,c,rfl,k⟩;exact⟨d,a,c,rfl,fun j y f=>(uD (xh w g d cs (l d rfl))).trans (k j y f)⟩
theorem UL (k m u g s l up) (v) (P) (w) (h:vT w v P) (d:vL k m u g s l up P=0):
 Calls prog 108 #[.agg #[.int .i64 k,.int .i64 m,.int .i64 u,.int .i64 g,.int .i64 s,.int .i64 l,.int .i64 up,v]] w (VE k m u g s l up P w):=by
 by_cases a:k=0
 .subst a;unfold vL at d;rw[ze rfl]at d;by_cases b:m=0/\u=0/\g=0/\s=0/\l=0/\up=0/\P.length=0
  .obtain⟨rfl,rfl,rfl,rfl,rfl,rfl,c⟩:=b;obtain rfl:P=[]:=yR.1 c;exact NV v w h
  .rw[zb b]at d;cases d
 .exact NU k m u g s l up v P w h d a
theorem VK (b:vL k m u g s l up P=0):(rV k m u g s l up P).length=32:=by
 unfold rV;by_cases a:k=0
 .rw[ze a,yN]
 .rw[zb a,zm,zm,UK (KF b a).2.2.2.2.2.2.2.1,yN];rfl
theorem Xm {g n cap:Nat} {D:List Int} {t:TypeId} (b:D.length=n) (h:w.heap[g]?=some (.cells (byts D) t)):vQ w (g,0,n,cap) D:=by refine⟨by rw[uo,uq],zu ⟨g,0,cap,by rw[b],fun j x a=>?_⟩⟩;rw[yO,zC h];simpa[byts,u8s]using a
theorem LK (bs) (gb ob cap) (y0 y1 y2 y3 y4 y5 y6 y7 y8 ym ys) (w) (ax:32<=cap) (af:vQ w (.slice (some ⟨gb,ob,none⟩) 32 cap) bs) (ad:∀c,vQ w (.slice (some ⟨gb,ob+9,none⟩) 16 c) (midB bs)) (hn:bs.length=32) (hx:∀x,x∈bs->0<=x/\x<=255)
 (Hm:Hid (ym=y1+y2*256)) (Hs:Hid (ys=y5+y6*256)) (hG:Hid (mh bs↔mi (midB bs)/\vL y0 ym y3 y4 ys y7 y8 (ptsN bs)=0/\rV y0 ym y3 y4 ys y7 y8 (ptsN bs)=bs))
 (c0:w.cell? ⟨gb,ob,none⟩=some (.int .u8 y0)) (c1:w.cell? ⟨gb,ob+1,none⟩=some (.int .u8 y1)) (c2:w.cell? ⟨gb,ob+2,none⟩=some (.int .u8 y2)) (c3:w.cell? ⟨gb,ob+3,none⟩=some (.int .u8 y3)) (c4:w.cell? ⟨gb,ob+4,none⟩=some (.int .u8 y4)) (c5:w.cell? ⟨gb,ob+5,none⟩=some (.int .u8 y5)) (c6:w.cell? ⟨gb,ob+6,none⟩=some (.int .u8 y6)) (c7:w.cell? ⟨gb,ob+7,none⟩=some (.int .u8 y7)) (c8:w.cell? ⟨gb,ob+8,none⟩=some (.int .u8 y8))
 (b0:0<=y0) (d0:y0<=255) (b1:0<=y1) (d1:y1<=255) (b2:0<=y2) (d2:y2<=255) (b3:0<=y3) (d3:y3<=255) (b4:0<=y4) (d4:y4<=255) (b5:0<=y5) (d5:y5<=255) (b6:0<=y6) (d6:y6<=255) (b7:0<=y7) (d7:y7<=255) (b8:0<=y8) (d8:y8<=255):
 Calls prog 133 #[.slice (some ⟨gb,ob,none⟩) 32 cap] w (SK bs y0 ym y3 y4 ys y7 y8 w):=by
 have aX:gb<w.heap.size:=zG c0;have aV:¬gb=w.heap.size:=by omega
 have am:=za af;have Y:=za ad;have HN:=za hn;have HX:=za hx;clear af ad hn hx;go_enter func133,ntmps133
 go_upto_region 3 with fail
 go_cut [4] (fun s4 wx=>∃l,s4=.pointer (some ⟨l,0,none⟩)/\w.heap.size<l/\Hid (wx.heap[l]?=some (.cells #[y0,ym,y3,y4,ys,y7,y8,(.slice none 0 0)] 123))/\Hid (wx.heap[w.heap.size]?=some (.cells #[(),(),(),(),(),(),(),.slice none 0 0] 123))/\Below w w wx)
 case first=>
  have aG:IntKind.i64.wrap y0=y0:=zQ _ (by omega);have ay:IntKind.i64.wrap y1=y1:=zQ _ (by omega);have au:IntKind.i64.wrap y2=y2:=zQ _ (by omega);have aB:IntKind.i64.wrap y3=y3:=zQ _ (by omega);have ar:IntKind.i64.wrap y4=y4:=zQ _ (by omega);have a8:IntKind.i64.wrap y5=y5:=zQ _ (by omega);have aq:IntKind.i64.wrap y6=y6:=zQ _ (by omega);have aM:IntKind.i64.wrap y7=y7:=zQ _ (by omega);have aA:IntKind.i64.wrap y8=y8:=zQ _ (by omega);have ah:=zW (y2*256) (by omega);have ae:=zW (y6*256) (by omega);have aE:bits .or .i64 y1 (y2*256)=ym:=by rw[iH _ _ b1 d1 b2 d2,Hm.o]
  have a9:bits .or .i64 y5 (y6*256)=ys:=by rw[iH _ _ b5 d5 b6 d6,Hs.o]
  go_region_held3 (fun F=>F.cell? (gb,ob)=some (.int .u8 y0)/\F.cell? (gb,ob+1)=some (.int .u8 y1)/\F.cell? (gb,ob+2)=some (.int .u8 y2)/\F.cell? (gb,ob+3)=some (.int .u8 y3)/\F.cell? (gb,ob+4)=some (.int .u8 y4)/\F.cell? (gb,ob+5)=some (.int .u8 y5)/\F.cell? (gb,ob+6)=some (.int .u8 y6)/\F.cell? (gb,ob+7)=some (.int .u8 y7)/\F.cell? (gb,ob+8)=some (.int .u8 y8)) (go_keep) (fail)
  all_goals
   clear aG ay au aB ar a8 aq aM aA ah ae aE a9;go_wp2_with fail
   go_meet
   case rel =>have e:(w.alloc (.cells #[(),(),(),(),(),(),(),.slice none 0 0] 123)).heap.size=w.heap.size+1:=(by simp);refine⟨w.heap.size+1,rfl,by omega,?_,tA (zT w _) _,((zB.alloc zL _).alloc (by simp) _).drew⟩;have:=zT (w.alloc (.cells #[(),(),(),(),(),(),(),.slice none 0 0] 123)) (.cells #[y0,ym,y3,y4,ys,y7,y8,(.slice none 0 0)] 123);rw[e]at this;exact this
 case rest=>
  obtain⟨l,rfl,bg,H4,HR,hB⟩:=hcut;clear c0 c1 c2 c3 c4 c5 c6 c7 c8;have aJ:Hid (∀c,vQ wc (.slice (some (gb,ob+9)) 16 c) (midB bs)):=fun c=>wh.below (Y.o c) hB;have a7:Hid (vQ wc (.slice (some (gb,ob)) 32 cap) bs):=wh.below am.o hB;have aP:25<=(cap:Int):=by omega
  have av:¬cap=9:=by omega
  have a1:25<=cap:=by omega
  go_wp2_with fail
  refine (Ns _ (midB bs) _ (aJ.o _) (by unfold midB;rw[zj];omega) (fun x hx=>HX.o x (wd (yY hx)))).mono ?_;rintro e C (⟨hg,r,rfl,hI,j,aa⟩|⟨hg,rfl,j⟩)
  .have ab:=za hg;have al:Hid (vT C r (ptsN bs)):=hI;have Z:=za (wy j H4.o);have B:=za (wy j HR.o);have aK:Hid (vQ C (.slice (some (gb,ob)) 32 cap) bs):=wh.below a7.o j;have E:=zf hB j;obtain⟨i,d,an,az⟩:∃p c,r=.slice p (ptsN bs).length c/\True:=by
    obtain⟨_,⟨h0,a0,c0,rfl⟩|⟨g,o,cap,rfl,hc⟩⟩:=hI
    .exact⟨a0,c0,by rw[show (ptsN bs).length=0 from h0],trivial⟩
    .exact⟨_,cap,rfl,trivial⟩
   obtain⟨f,a6⟩:=zA ((ptsN bs).length);rw[<-a6.o]at an;subst an;have X:Hid (∀b,(Value.slice i f d).ownBlock=some b->w.heap.size<b):=fun b W=>(by have:=aa b W;have:=xR H4.o;omega);clear hg hI j az aa;have x7:=(uT Z.o).2.2.2.2.2.2.2;have fz:C.frozen? (l,7)=false:=zF Z.o;have aT:=xR Z.o;have H6:Hid ((C.setCell (l,7) (i,f,d)).heap[l]?=some (.cells #[y0,ym,y3,y4,ys,y7,y8,(i,f,d)] 123)):=yb _ _ 7 _ _ (i,f,d) Z.o;have D:Hid ((C.setCell (l,7) (i,f,d)).heap[w.heap.size]?=some (.cells #[(),(),(),(),(),(),(),.slice none 0 0] 123)):=(yE _ _ _ _ (by show w.heap.size≠l;omega)).trans B.o;have y:Hid (vT (C.setCell (l,7) (i,f,d)) (i,f,d) (ptsN bs)):=LZ al.o (fun n h=>by rw[x7]at h;injection h with h;cases h) _;have A:Below w w (C.setCell (l,7) (i,f,d)):=E.setCell (by show w.heap.size<=l;omega) _;have L:Hid (vQ (C.setCell (l,7) (i,f,d)) (.slice (some (gb,ob)) 32 cap) bs):=wh.below am.o A
   go_upto_region 8 with fail
   generalize C.setCell (l,7) (i,f,d)=w6 at *
   obtain⟨q0,q1,q2,q3,q4,q5,q6,q7⟩:=uT H6.o;clear x7 fz Z B aK al E;obtain⟨c,Hc⟩:=zD (vL y0 ym y3 y4 ys y7 y8 (ptsN bs));have bi:(ptsN bs).length<=8:=(by have:=Jf ab.o.2.1;exact VH this);by_cases m:c=0
   .subst m;go_wp2_with fail
    refine (UL y0 ym y3 y4 ys y7 y8 _ (ptsN bs) _ y.o Hc.o).mono ?_;rintro e U ⟨gp,rfl,bb,aj,a⟩;have H7:=za (wy a H6.o);have u:=za (wy a D.o);have ac:Hid (vT U (i,f,d) (ptsN bs)):=wh.below y.o a;have ai:Hid (vQ U (.slice (some (gb,ob)) 32 cap) bs):=wh.below L.o a;have G:=zf A a;have Q:=VK Hc.o;have aC:Hid (vQ U (.slice (some ⟨gp,0,none⟩) 32 32) (rV y0 ym y3 y4 ys y7 y8 (ptsN bs))):=Xm Q aj;have ag:=za Q;clear q0 q1 q2 q3 q4 q5 q6 q7 aj a Q H6 D y L A;go_wp2_with fail
    refine (V1 _ _ _ bs _ aC.o ai.o (by rw[ag.o,HN.o]) (by rw[ag.o];omega)).mono ?_;obtain⟨q,Hq⟩:=zD (eqB (rV y0 ym y3 y4 ys y7 y8 (ptsN bs)) bs);rw[Hq.o];rintro e V ⟨rfl,t⟩;have H8:=za (wy t H7.o);have H:=za (wy t u.o);have aF:Hid (vT V (i,f,d) (ptsN bs)):=wh.below ac.o t;have ak:=zf G t;clear t H7 u ac ai G;cases q with
    | true=>
     have O:=za (hG.out.2 ⟨ab.o,Hc.o,sM Hq.o⟩);obtain⟨q0,q1,q2,q3,q4,q5,q6,q7⟩:=uT H8.o;have K:Hid ((V.setRow w #[y0,ym,y3,y4,ys,y7,y8,(i,f,d)]).heap[w.heap.size]?=some (.cells #[y0,ym,y3,y4,ys,y7,y8,(i,f,d)] 123)):=yh _ _ _ _ _ _ H.o;have k:Hid (Below w w (V.setRow w #[y0,ym,y3,y4,ys,y7,y8,(i,f,d)])):=VZ ak zL _;have a2:Hid (vT (V.setRow w #[y0,ym,y3,y4,ys,y7,y8,(i,f,d)]) (i,f,d) (ptsN bs)):=Lf aF.o (fun b W=>by have:=X.o b W;omega) _;go_wp2_with (refine yG rfl 123 (.tmp 2) (.tmp 78) rfl w #[y0,ym,y3,y4,ys,y7,y8,(i,f,d)] rfl rfl 123 _ H.o ma rfl (VL _ _ _ _ _ _ _ _ rfl) ?_)
     obtain⟨J,R,S,P,I,N,T,M⟩:=uT K.o;refine yV (v:=.tuple #[.agg #[y0,ym,y3,y4,ys,y7,y8,(i,f,d)],()]) (by simp[results,tW,go_sem,J,R,S,P,I,N,T,M]) rfl (zr ⟨O.o,_,rfl,⟨a2.o,fun b W=>nU (X.o b W)⟩,k.o⟩)
    | false=>
     have z:Hid (¬mh bs):=fun s=>(by have:=(hG.out.1 s).2.2;exact zY (ya this) (by have:=Hq.o;unfold eqB at this;rw[this];simp));have K:Hid ((V.setRow w #[(),(),(),(),(),(),(),.slice none 0 0]).heap[w.heap.size]?=some (.cells #[(),(),(),(),(),(),(),.slice none 0 0] 123)):=yh _ _ _ _ _ _ H.o;have k:Hid (Below w w (V.setRow w #[(),(),(),(),(),(),(),.slice none 0 0])):=VZ ak zL _;go_wp2_with (refine yG rfl 123 (.tmp 2) (.tmp 77) rfl w #[(),(),(),(),(),(),(),.slice none 0 0] rfl rfl 123 _ H.o ma rfl (VL _ _ _ _ _ _ _ _ rfl) ?_)
     obtain⟨J,R,S,P,I,N,T,M⟩:=uT K.o;refine yV (v:=.tuple #[.agg #[(),(),(),(),(),(),(),.slice none 0 0],(3:Int)]) (by simp[results,tW,go_sem,J,R,S,P,I,N,T,M]) rfl (zu ⟨z.o,rfl,k.o⟩)
   .have z:Hid (¬mh bs):=fun s=>m (by rw[<-Hc.o];exact (hG.out.1 s).2.1);have n1:(c==0)=false:=(by simpa using m);have n2:(c != 0)=true:=(by simpa using m);have aW:=za m;clear m;go_wp2_with fail
    refine (PU y0 ym y3 y4 ys y7 y8 _ (ptsN bs) _ y.o (by omega) c Hc n2).mono ?_;rintro e U ⟨rfl,a⟩;have u:=za (wy a D.o);have G:=zf A a;clear q0 q1 q2 q3 q4 q5 q6 q7 a H6 D y L A;have K:Hid ((U.setRow w #[(),(),(),(),(),(),(),.slice none 0 0]).heap[w.heap.size]?=some (.cells #[(),(),(),(),(),(),(),.slice none 0 0] 123)):=yh _ _ _ _ _ _ u.o;have k:Hid (Below w w (U.setRow w #[(),(),(),(),(),(),(),.slice none 0 0])):=VZ G zL _;go_wp2_with (refine yG rfl 123 (.tmp 2) (.tmp 77) rfl w #[(),(),(),(),(),(),(),.slice none 0 0] rfl rfl 123 _ u.o ma rfl (VL _ _ _ _ _ _ _ _ rfl) ?_)
    obtain⟨J,R,S,P,I,N,T,M⟩:=uT K.o;refine yV (v:=.tuple #[.agg #[(),(),(),(),(),(),(),.slice none 0 0],(3:Int)]) (by simp[results,tW,go_sem,J,R,S,P,I,N,T,M]) rfl (zu ⟨z.o,rfl,k.o⟩)
  .have z:Hid (¬mh bs):=fun s=>hg s.2.1;have B:=za (wy j HR.o);have E:=zf hB j;clear hg j;have K:Hid ((C.setRow w #[(),(),(),(),(),(),(),.slice none 0 0]).heap[w.heap.size]?=some (.cells #[(),(),(),(),(),(),(),.slice none 0 0] 123)):=yh _ _ _ _ _ _ B.o;have k:Hid (Below w w (C.setRow w #[(),(),(),(),(),(),(),.slice none 0 0])):=VZ E zL _;go_wp2_with (refine yG rfl 123 (.tmp 2) (.tmp 61) rfl w #[(),(),(),(),(),(),(),.slice none 0 0] rfl rfl 123 _ B.o ma rfl (VL _ _ _ _ _ _ _ _ rfl) ?_)
   obtain⟨J,R,S,P,I,N,T,M⟩:=uT K.o;refine yV (v:=.tuple #[.agg #[(),(),(),(),(),(),(),.slice none 0 0],(3:Int)]) (by simp[results,tW,go_sem,J,R,S,P,I,N,T,M]) rfl (zu ⟨z.o,rfl,k.o⟩)
theorem XE (p:vL k m u g s l up P=0):∀x,x∈rV k m u g s l up P->0<=x/\x<=255:=by
 intro x a;unfold rV at a;by_cases b:k=0
 .rw[ze b]at a;have:=xV a;omega
 .obtain⟨h,j,n,o,e,i,d,c,f⟩:=KF p b;rw[zb b]at a;rcases yo.1 a with a|a
  .rcases yo.1 a with a|a
   .simp only[yD,yK,qH]at a;omega
   .exact KH c x a
  .have:=xV a;omega
theorem MR (v) (bs) (w) (h:vQ w v bs) (C:bs.length<=1000000) (B:∀x,x∈bs->0<=x/\x<=255) (A:∃p c,v=.slice p bs.length c/\bs.length<=c):
 Calls prog 133 #[v] w (Xd bs w):=by
 by_cases i:bs.length=32
 .have r:=h;obtain⟨_,⟨z,_⟩|⟨l,m,o,rfl,s⟩⟩:=h
  .omega
  obtain⟨p,c,u,f⟩:=A;injection u with _ _ q;subst q;rw[i]at f;have a:∀j,j<32->w.cell? ⟨l,m+j,none⟩=some (.int .u8 (bs.getD j 0)):=fun j n=>by have:=s j _ (qg bs j (by omega));rw[this,zi,zh (by omega)];rfl
  have b:∀j,j<32->0<=bs.getD j 0/\bs.getD j 0<=255:=fun j n=>by rw[zi,zh (by omega)];exact B _ (zx _)
  have k:∀c,vQ w (.slice (some (l,m+9)) 16 c) (midB bs):=fun c=>by have g:(midB bs).length=16:=(by unfold midB;rw[zj,yB];omega);refine⟨by rw[uo,uq],zu ⟨l,m+9,c,by rw[g],fun j x d=>?_⟩⟩;have n:=(zJ.1 d).1;rw[uo,g]at n;rw[yC];refine s (9+j) x ?_;unfold midB at d;rw[oV,mL,zI,ze n,yw]at d;exact d
  rw[i]at r ⊢;refine (LK bs l m o _ _ _ _ _ _ _ _ _ (bs.getD 1 0+bs.getD 2 0*256) (bs.getD 5 0+bs.getD 6 0*256) w f r k i B rfl rfl ⟨fun h=>⟨h.2.1,h.2.2.1,h.2.2.2⟩,fun h=>⟨i,h.1,h.2.1,h.2.2⟩⟩ (a 0 (by omega)) (a 1 (by omega)) (a 2 (by omega)) (a 3 (by omega)) (a 4 (by omega)) (a 5 (by omega)) (a 6 (by omega)) (a 7 (by omega)) (a 8 (by omega))
   (b 0 (by omega)).1 (b 0 (by omega)).2 (b 1 (by omega)).1 (b 1 (by omega)).2 (b 2 (by omega)).1 (b 2 (by omega)).2 (b 3 (by omega)).1 (b 3 (by omega)).2 (b 4 (by omega)).1 (b 4 (by omega)).2 (b 5 (by omega)).1 (b 5 (by omega)).2 (b 6 (by omega)).1 (b 6 (by omega)).2 (b 7 (by omega)).1 (b 7 (by omega)).2 (b 8 (by omega)).1 (b 8 (by omega)).2).mono fun e y t=>?_
  exact t
 .exact Kg v bs w h i C
-- NOTED
theorem Md (h:vT w v P) (n) (i:n=P.length):∃p c,v=.slice p n c:=by
 subst i;obtain⟨_,⟨e,b,d,rfl⟩|⟨g,o,a,rfl,f⟩⟩:=h
 .exact⟨b,d,by rw[e]⟩
 .exact⟨_,a,rfl⟩
