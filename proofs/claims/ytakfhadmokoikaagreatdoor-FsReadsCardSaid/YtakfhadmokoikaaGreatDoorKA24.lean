import Derived.Test.YtakfhadmokoikaaGreatDoorKA22
import Derived.Deep.OwnRows
set_option maxHeartbeats 0
set_option linter.all false
set_option maxRecDepth 100000
namespace Go.Proofs.YtakfhadmokoikaaGreatDoor
open Go.Proofs.Tryz Go.RowKit
def kZ (L:List Int) (n:Int):List Int:=if 1<=n/\n<=32 then L.set (n-1).toNat (L.getD (n-1).toNat 0+1) else L
def qy (X:List En):List Int:=X.foldl (fun L x=>kZ L x.2) (List.replicate 32 0)
theorem J6 (X:List En) (x:En):qy (X++[x])=kZ (qy X) x.2:=by unfold qy;rw[xF];rfl
theorem Oy (L:List Int) (n:Int):(kZ L n).length=L.length:=by unfold kZ;split<;>simp
theorem V3 (X:List En):∀k,k<=X.length->(qy (X.take k)).length=32/\∀i,0<=(qy (X.take k)).getD i 0/\(qy (X.take k)).getD i 0<=k
 | 0,_=>by
  refine⟨by simp[qy],fun i=>?_⟩;have:(qy (X.take 0)).getD i 0=0:=by show (List.replicate 32 (0:Int)).getD i 0=0;rw[zh,yY];split<;>rfl
  rw[this];simp
 | k+1,d=>by
  obtain⟨c,b⟩:=V3 X k (by omega);have a:k<X.length:=by omega
  rw[<-zY a,J6];refine⟨by rw[Oy];exact c,fun i=>?_⟩;have:=b i;unfold kZ;split
  .rw[zh,sG];split
   .have e:=b (X[k].2-1).toNat;split
    .simp only[tt];omega
    .simp;omega
   .rw[<-zh];omega
  .omega
theorem Rn (L:List Int) (i:Nat) (x:Int):(ints L).toArray.setIfInBounds i (.int .i64 x)=(ints (L.set i x)).toArray:=by unfold ints;rw[uZ];simp
theorem PA (n:Nat):madeCells #[Value.int .i64 0] n=(ints (List.replicate n 0)).toArray:=by
 apply yV;intro i;unfold madeCells ints;by_cases h:i<n
 .simp[h,qJ]
 .simp[h]
theorem Py (n:Nat) (x:Int) (a:x=n) (b:n<=1000000) (W:World):(Instr.makeSlice 49 (.int .i64 x) (.int .i64 x)).run prog W=.ok (W.heap.size,0,n,n) (W.alloc (.cells (ints (List.replicate n 0)).toArray 3)):=by subst a;rw[<-PA];exact run_make_row' 49 3 (.int .i64 0) 8 lk jz rfl .i64 .i64 n (by omega) (by omega) W
theorem Pv (v:Value) (X:List En) (w:World) (h:rB w v X) (hl:X.length<=1000):
 Calls prog 148 #[v,(32:Int)] w fun e w'=>∃g,e=.returned (.slice (some ⟨g,0,none⟩) 32 32)/\w'.heap[g]?=some (.cells (ints (qy X)).toArray 3 (0,0))/\w.heap.size<=g/\Below w w w':=by
 obtain⟨N,D⟩:=zA X.length;obtain⟨p,cp,hv,Q⟩:=fD h N D.o;rw[<-D.o]at hl;subst hv;have HP:=Lib.hid Q;clear h Q;obtain⟨Z,U⟩:=zA (List.replicate 32 (0:Int));have J:∀W:World,(Instr.makeSlice 49 (.int .i64 (max 0 32)) (.int .i64 (max 0 32))).run prog W=.ok (.slice (some ⟨W.heap.size,0,none⟩) 32 32) (W.alloc (.cells (ints Z).toArray 3)):=fun W=>by rw[U.o];exact Py 32 (max 0 32) (by decide) (by omega) W
 have F:Hid ((w.alloc (.cells (ints Z).toArray 3)).heap[w.heap.size]?=some (.cells (ints (qy (X.take 0))).toArray 3 (0,0))):=by have:=zT w (.cells (ints Z).toArray 3);rw[U.o]at this ⊢;exact this
 go_enter func148,ntmps148
 go_wp2;clear J;go_loopw [14] (fun i wr=>∃k:Nat,k<=N/\i=.int .i64 k/\Hid (wr.heap[w.heap.size]?=some (.cells (ints (qy (X.take k))).toArray 3 (0,0)))/\Below w w wr) (fun i _=>N-(intOf i).toNat);case atStart=>exact⟨0,ye _,rfl,F,zB.alloc zL _⟩
 case round=>
  obtain⟨k,hk,rfl,q,m⟩:=hrel;by_cases E:k<N
  .obtain⟨g,o,rfl,G,V⟩:=HP.o (by omega);have z:k<X.length:=(by rw[<-D.o];exact E);have c:=V k z;obtain⟨x,Hx⟩:=zD (X[k].1);obtain⟨n,S⟩:=zD (X[k].2);rw[Hx.o,S.o]at c;have c1:=(m.cell (p:=⟨g,o+k*2,none⟩) G).trans c.1;have c2:=(m.cell (p:=⟨g,o+(k*2+1),none⟩) G).trans c.2;rw[<-yA]at c2;have R:(k:Int)<(N:Int):=(by omega);have ag:g<wr.heap.size:=zm G m.size;have ae:¬g=wr.heap.size:=(by omega);obtain⟨a,d⟩:=V3 X k (by omega);have f:Hid (qy (X.take (k+1))=kZ (qy (X.take k)) n):=(by show _=_;rw[<-zY z,J6,S.o]);generalize qy (X.take k)=L at *
   have T:=Lib.hid a;have ac:w.heap.size<wr.heap.size:=xL q.o;have ab:¬w.heap.size=wr.heap.size:=(by omega);have u:Hid ((wr.alloc (.cells #[.string x,n] 188)).heap[w.heap.size]?=some (.cells (ints L).toArray 3 (0,0))):=tf q.o _;have t:Hid (Below w w (wr.alloc (.cells #[.string x,n] 188))):=m.alloc m.size _;clear V c;by_cases s:1<=n
   .by_cases l:n<=32
    .have hj:(n-1).toNat<L.length:=(by rw[a];omega);obtain⟨j,I⟩:∃j:Nat,n=(j:Int)+1:=⟨(n-1).toNat,by omega⟩;subst I;have C:((j:Int)+1-1).toNat=j:=(by omega);have B:j<32:=(by omega);obtain⟨y,P⟩:∃y,Hid (L[j]?=some y):=⟨L[j]'(by rw[a];exact B),zf _⟩;have r:L.getD j 0=y:=(by rw[zh,P.o];rfl);have H:=d j;rw[r]at H;have A:Hid (qy (X.take (k+1))=L.set j (y+1)):=(by show _=_;rw[f.o];unfold kZ;rw[ze ⟨s,l⟩,C,r]);have cy:wr.cell? (w.heap.size,j)=some (.int .i64 y):=(by rw[zC q.o];simp[ints,P.o]);have fz:wr.frozen? (w.heap.size,j)=false:=zF q.o;have M:(j:Int)+1-1=(j:Int):=(by omega);have b2:IntKind.i64.wrap ((j:Int)+1-1)=(j:Int):=(by rw[M];exact zQ _ (by omega));have b3:(j:Int)<32:=(by omega);have O:decide (1<=(j:Int)+1)=true:=(by rw[yJ];omega);have Y:decide ((j:Int)+1<=32)=true:=(by rw[yJ];omega);have b:Hid (((wr.setCell (w.heap.size,j) (.int .i64 (y+1))).alloc (.cells #[.string x,.int .i64 ((j:Int)+1)] 188)).heap[w.heap.size]?=some (.cells (ints (qy (X.take (k+1)))).toArray 3 (0,0))):=(by have:=zX _ _ j _ _ (.int .i64 (y+1)) q.o;rw[Rn]at this;rw[A.o];exact tf this _);have K:Hid (Below w w ((wr.setCell (w.heap.size,j) (.int .i64 (y+1))).alloc (.cells #[.string x,.int .i64 ((j:Int)+1)] 188))):=(m.setCell zL _).alloc (by have:=m.size;simpa[World.setCell]using this) _;clear r C d f q u t a M;go_wp2;go_roundw;case rel=>exact⟨k+1,by omega,by go_num,b,K.o⟩
     case measure=>simp[intOf];omega
    .have O:decide (1<=n)=true:=(by rw[yJ];exact s);have Y:decide (n<=32)=false:=(by rw[zJ];exact l);have b:Hid ((wr.alloc (.cells #[.string x,n] 188)).heap[w.heap.size]?=some (.cells (ints (qy (X.take (k+1)))).toArray 3 (0,0))):=(by show _=_;rw[f.o];unfold kZ;rw[zb (by omega)];exact u.o);clear d a;go_wp2;go_roundw;case rel=>exact⟨k+1,by omega,by go_num,b,t.o⟩
     case measure=>simp[intOf];omega
   .have O:decide (1<=n)=false:=(by rw[zJ];exact s);have b:Hid ((wr.alloc (.cells #[.string x,n] 188)).heap[w.heap.size]?=some (.cells (ints (qy (X.take (k+1)))).toArray 3 (0,0))):=(by show _=_;rw[f.o];unfold kZ;rw[zb (by omega)];exact u.o);clear d a;go_wp2;go_roundw;case rel=>exact⟨k+1,by omega,by go_num,b,t.o⟩
    case measure=>simp[intOf];omega
  .have HT:Hid (X.take k=X):=zv (by rw[<-D.o];omega);rw[HT.o]at q;go_wp2;go_ret;exact⟨_,rfl,q.o,zL,m⟩
