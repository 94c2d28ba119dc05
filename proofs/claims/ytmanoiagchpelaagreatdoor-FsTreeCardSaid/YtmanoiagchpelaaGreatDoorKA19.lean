import Derived.Test.YtmanoiagchpelaaGreatDoorKA17
import Derived.Deep.OwnRows
set_option maxHeartbeats 0
set_option linter.all false
set_option maxRecDepth 100000
namespace Go.Proofs.YtmanoiagchpelaaGreatDoor
open Go.Proofs.Tryz Go.RowKit
def qZ (L:List Int) (n:Int):List Int:=if 1<=n/\n<=32 then L.set (n-1).toNat (L.getD (n-1).toNat 0+1) else L
def qq (X:List En):List Int:=X.foldl (fun L x=>qZ L x.2) (List.replicate 32 0)
theorem ID (X) (x):qq (X++[x])=qZ (qq X) x.2:=by unfold qq;rw[xG];rfl
theorem Nh (L) (n):(qZ L n).length=L.length:=by unfold qZ;split<;>simp
theorem UV (X:List En):∀k,k<=X.length->(qq (X.take k)).length=32/\∀i,0<=(qq (X.take k)).getD i 0/\(qq (X.take k)).getD i 0<=k
 | 0,_=>by
  refine⟨by simp[qq],fun i=>?_⟩;have:(qq (X.take 0)).getD i 0=0:=by show (List.replicate 32 (0:Int)).getD i 0=0;rw[zi,xf];split<;>rfl
  rw[this];simp
 | k+1,d=>by
  obtain⟨c,b⟩:=UV X k (by omega);have a:k<X.length:=by omega
  rw[<-zR a,ID];refine⟨by rw[Nh];exact c,fun i=>?_⟩;have:=b i;unfold qZ;split
  .rw[zi,sP];split
   .have e:=b (X[k].2-1).toNat;split
    .simp only[uK];omega
    .simp;omega
   .rw[<-zi];omega
  .omega
theorem Qb (L) (i) (x):(ints L).toArray.setIfInBounds i (.int .i64 x)=(ints (L.set i x)).toArray:=by unfold ints;rw[th];simp
theorem Of (n):madeCells #[Value.int .i64 0] n=(ints (List.replicate n 0)).toArray:=by
 apply xa;intro i;unfold madeCells ints;by_cases h:i<n
 .simp[h,qK]
 .simp[h]
theorem Od (n:Nat) (x:Int) (a:x=n) (b:n<=1000000) (W):(Instr.makeSlice 33 (.int .i64 x) (.int .i64 x)).run prog W=.ok (.slice (some ⟨W.heap.size,0,none⟩) n n) (W.alloc (.cells (ints (List.replicate n 0)).toArray 3)):=by subst a;rw[<-Of];exact run_make_row' 33 3 (.int .i64 0) 8 lB jP rfl .i64 .i64 n (by omega) (by omega) W
theorem P9 (v) (X) (w) (h:rM w v X) (hl:X.length<=2000):
 Calls prog 153 #[v,(32:Int)] w fun e w'=>∃g,e=.returned (.slice (some ⟨g,0,none⟩) 32 32)/\w'.heap[g]?=some (.cells (ints (qq X)).toArray 3 (0,0))/\w.heap.size<=g/\Below w w w':=by
 obtain⟨N,D⟩:=zA X.length;obtain⟨p,cp,hv,Q⟩:=Zs h N D.o;rw[<-D.o]at hl;subst hv;have HP:=za Q;clear h Q;obtain⟨Z,U⟩:=zA (List.replicate 32 (0:Int));have J:∀W,(Instr.makeSlice 33 (.int .i64 (max 0 32)) (.int .i64 (max 0 32))).run prog W=.ok (.slice (some ⟨W.heap.size,0,none⟩) 32 32) (W.alloc (.cells (ints Z).toArray 3)):=fun W=>by rw[U.o];exact Od 32 (max 0 32) (by decide) (by omega) W
 have F:Hid ((w.alloc (.cells (ints Z).toArray 3)).heap[w.heap.size]?=some (.cells (ints (qq (X.take 0))).toArray 3 (0,0))):=by have:=zT w (.cells (ints Z).toArray 3);rw[U.o]at this ⊢;exact this
 go_enter func153,ntmps153
 go_wp2;clear J;go_loopw [14] (fun i wr=>∃k:Nat,k<=N/\i=.int .i64 k/\Hid (wr.heap[w.heap.size]?=some (.cells (ints (qq (X.take k))).toArray 3 (0,0)))/\Below w w wr) (fun i _=>N-(intOf i).toNat);case atStart=>exact⟨0,ye _,rfl,F,zB.alloc zL _⟩
 case round=>
  obtain⟨k,hk,rfl,q,m⟩:=hrel;by_cases E:k<N
  .obtain⟨g,o,rfl,G,V⟩:=HP.o (by omega);have z:k<X.length:=(by rw[<-D.o];exact E);have c:=V k z;obtain⟨x,Hx⟩:=zD (X[k].1);obtain⟨n,S⟩:=zD (X[k].2);rw[Hx.o,S.o]at c;have c1:=(m.cell (p:=⟨g,o+k*2,none⟩) G).trans c.1;have c2:=(m.cell (p:=⟨g,o+(k*2+1),none⟩) G).trans c.2;rw[<-yC]at c2;have R:k<(N:Int):=(by omega);have ag:=zo G m.size;have ae:¬g=wr.heap.size:=(by omega);obtain⟨a,d⟩:=UV X k (by omega);have f:Hid (qq (X.take (k+1))=qZ (qq (X.take k)) n):=(by show _=_;rw[<-zR z,ID,S.o]);generalize qq (X.take k)=L at *
   have T:=za a;have ac:=xR q.o;have ab:¬w.heap.size=wr.heap.size:=(by omega);have u:Hid ((wr.alloc (.cells #[.string x,n] 46)).heap[w.heap.size]?=some (.cells (ints L).toArray 3 (0,0))):=tA q.o _;have t:Hid (Below w w (wr.alloc (.cells #[.string x,n] 46))):=m.alloc m.size _;clear V c;by_cases s:1<=n
   .by_cases l:n<=32
    .have hj:(n-1).toNat<L.length:=(by rw[a];omega);obtain⟨j,I⟩:∃j:Nat,n=(j:Int)+1:=⟨(n-1).toNat,by omega⟩;subst I;have C:((j:Int)+1-1).toNat=j:=(by omega);have B:j<32:=(by omega);obtain⟨y,P⟩:∃y,Hid (L[j]?=some y):=⟨L[j]' (by rw[a];exact B),zh _⟩;have r:L.getD j 0=y:=(by rw[zi,P.o];rfl);have H:=d j;rw[r]at H;have A:Hid (qq (X.take (k+1))=L.set j (y+1)):=(by show _=_;rw[f.o];unfold qZ;rw[ze ⟨s,l⟩,C,r]);have cy:wr.cell? (w.heap.size,j)=some (.int .i64 y):=(by rw[zC q.o];simp[ints,P.o]);have fz:wr.frozen? (w.heap.size,j)=false:=zF q.o;have M:j+1-1=(j:Int):=(by omega);have b2:IntKind.i64.wrap (j+1-1)=j:=(by rw[M];exact zQ _ (by omega));have b3:(j:Int)<32:=(by omega);have O:decide (1<=(j:Int)+1)=true:=(by rw[yJ];omega);have Y:decide ((j:Int)+1<=32)=true:=(by rw[yJ];omega);have b:Hid (((wr.setCell (w.heap.size,j) (.int .i64 (y+1))).alloc (.cells #[.string x,.int .i64 (j+1)] 46)).heap[w.heap.size]?=some (.cells (ints (qq (X.take (k+1)))).toArray 3 (0,0))):=(by have:=yb _ _ j _ _ (.int .i64 (y+1)) q.o;rw[Qb]at this;rw[A.o];exact tA this _);have K:Hid (Below w w ((wr.setCell (w.heap.size,j) (.int .i64 (y+1))).alloc (.cells #[.string x,.int .i64 (j+1)] 46))):=(m.setCell zL _).alloc (by have:=m.size;simpa[World.setCell]using this) _;clear r C d f q u t a M;go_wp2;go_roundw;case rel=>exact⟨k+1,by omega,by go_num,b,K.o⟩
     case measure=>simp[intOf];omega
    .have O:decide (1<=n)=true:=(by rw[yJ];exact s);have Y:decide (n<=32)=false:=(by rw[zM];exact l);have b:Hid ((wr.alloc (.cells #[.string x,n] 46)).heap[w.heap.size]?=some (.cells (ints (qq (X.take (k+1)))).toArray 3 (0,0))):=(by show _=_;rw[f.o];unfold qZ;rw[zb (by omega)];exact u.o);clear d a;go_wp2;go_roundw;case rel=>exact⟨k+1,by omega,by go_num,b,t.o⟩
     case measure=>simp[intOf];omega
   .have O:decide (1<=n)=false:=(by rw[zM];exact s);have b:Hid ((wr.alloc (.cells #[.string x,n] 46)).heap[w.heap.size]?=some (.cells (ints (qq (X.take (k+1)))).toArray 3 (0,0))):=(by show _=_;rw[f.o];unfold qZ;rw[zb (by omega)];exact u.o);clear d a;go_wp2;go_roundw;case rel=>exact⟨k+1,by omega,by go_num,b,t.o⟩
    case measure=>simp[intOf];omega
  .have HT:Hid (X.take k=X):=zv (by rw[<-D.o];omega);rw[HT.o]at q;go_wp2;go_ret;exact⟨_,rfl,q.o,zL,m⟩
