import Derived.Test.YtmanoiagchpelaaGreatDoorKA6
import Derived.IntWalk
import Derived.Lib.Overlaps
import Derived.Laws.Externs
set_option maxHeartbeats 0
set_option linter.all false
set_option maxRecDepth 100000
namespace Go.Proofs.YtmanoiagchpelaaGreatDoor
open Go.Proofs.Tryz Go.RowKit
variable {l:List (Int×Int)} {u:Int} {w:World}
def ofQ : List (Int×Int)->Int->Int
 | [],_=> -1
 | x::l,u=>if x.1=u then x.2 else ofQ l u
theorem RM (l:List (Int×Int)) (u) (k) (hk):ofQ (l.drop k) u=if l[k].1=u then l[k].2 else ofQ (l.drop (k+1)) u:=by rw[xp hk];rfl
theorem V9 (l) (k) (hk):(wY l)[k*2]?=some (.int .i64 l[k].1)/\(wY l)[k*2+1]?=some (.int .i64 l[k].2):=by
 have e:l=l.take k++(l[k]::l.drop (k+1)):=by rw[List.getElem_cons_drop,xC]
 have a:(wY (l.take k)).length=k*2:=by rw[rN,zj];omega
 have b:wY l=wY (l.take k)++(.int .i64 l[k].1::.int .i64 l[k].2::wY (l.drop (k+1))):=by
  conv=>lhs;rw[e]
  rw[oZ];rfl
 rw[b];constructor
 .rw[zy (by omega),a,uM];rfl
 .rw[zy (by omega),a,show k*2+1-k*2=1 by omega];rfl
theorem Ya {v:Value} (h:wh w v 2 l.length (wY l)):∃a c,v=.slice a l.length c/\(0<l.length->∃g o,a=some ⟨g,o,none⟩/\g<w.heap.size/\∀k (hk),w.cell? ⟨g,o+k*2,none⟩=some (.int .i64 l[k].1)/\w.cell? ⟨g,o+k*2+1,none⟩=some (.int .i64 l[k].2)):=by
 obtain⟨_,⟨d,a,c,rfl⟩|⟨g,o,c,rfl,b⟩⟩:=h
 .exact⟨a,c,by rw[d],fun h=>by omega⟩
 .refine⟨_,c,rfl,fun e=>⟨g,o,rfl,?_,fun k hk=>?_⟩⟩
  .exact zG (b 0 _ (V9 l 0 e).1)
  .exact⟨b _ _ (V9 l k hk).1,by rw[yC];exact b _ _ (V9 l k hk).2⟩
theorem of_any (v) (l) (u) (w) (h:wh w v 2 l.length (wY l)) (L:l.length<=1000000):
 Calls prog 200 #[v,.int .i64 u] w fun e w'=>e=.returned (.int .i64 (ofQ l u))/\Below w w w':=by
 obtain⟨a,c,E,D⟩:=Ya h;obtain⟨n,z⟩:=zA l.length;rw[<-z.o]at E L;subst E;have m:=za D;clear D h;go_enter func200,ntmps200;go_wp2;go_loopw [9] (fun i wr=>∃k:Nat,k<=n/\i=.int .i64 k/\Hid (ofQ l u=ofQ (l.drop k) u)/\Below w w wr) (fun i _=>n-(intOf i).toNat);case atStart=>exact⟨0,by omega,rfl,rfl,zB⟩
 case round=>
  obtain⟨k,I,rfl,t,f⟩:=hrel;by_cases j:k<n
  .have d:k<l.length:=(by rw[<-z.o];exact j);have A:=za (RM l u k d);obtain⟨g,o,rfl,C,s⟩:=m.o (by omega);obtain⟨x,B⟩:=zA (l[k].1);obtain⟨y,F⟩:=zA (l[k].2);have K:wr.cell? (g,o+k*2)=some (.int .i64 x):=(by rw[f.cell (p:=⟨g,o+k*2,none⟩) C,(s k d).1,B.o]);have J:wr.cell? (g,o+k*2+1)=some (.int .i64 y):=(by rw[f.cell (p:=⟨g,o+k*2+1,none⟩) C,(s k d).2,F.o]);rw[<-B.o,<-F.o]at A;clear s;by_cases b:x=u
   .subst b;have q:Hid (ofQ l x=y):=(by show _=_;rw[t.o,A.o,ze rfl]);go_wp2;go_ret;rw[q.o];exact⟨rfl,f.alloc f.size _⟩
   .have H:(x==u)=false:=(by simpa using b);have r:Hid (ofQ l u=ofQ (l.drop (k+1)) u):=(by show _=_;rw[t.o,A.o,zb b]);have G:=za b;clear b;go_wp2;go_roundw;case rel=>exact⟨k+1,by omega,by go_num,r,f.alloc f.size _⟩
    case measure=>simp[intOf];omega
  .have q:Hid (ofQ l u = -1):=(by show _=_;rw[t.o,vN (by rw[<-z.o];omega)];rfl);go_wp2;go_ret;rw[q.o];exact⟨rfl,f⟩
def okAt (l:List (Int×Int)) (i:Nat):Bool:=decide (0<=(l.getD i (0,0)).1)&&decide ((l.getD i (0,0)).1<=255)&&decide (0<=(l.getD i (0,0)).2)&&decide ((l.getD i (0,0)).2<=256)&&(decide (i=0)||decide ((l.getD (i-1) (0,0)).1<(l.getD i (0,0)).1))
def okQ (l:List (Int×Int)):Bool:=(List.range l.length).all (okAt l)
def rd (l:List (Int×Int)):Int:=if 20<l.length then 2 else if okQ l=true then 0 else 3
theorem Yl (h:∀i,i<l.length->okAt l i=true):okQ l=true:=by unfold okQ;rw[yW];exact fun i a=>h i (yH.1 a)
theorem iI (h:okQ l=true) (i) (a:i<l.length):okAt l i=true:=by unfold okQ at h;rw[yW]at h;exact h i (yH.2 a)
theorem lZ (l) (i):okAt l i=true↔(0<=(l.getD i (0,0)).1/\(l.getD i (0,0)).1<=255/\0<=(l.getD i (0,0)).2/\(l.getD i (0,0)).2<=256/\(i=0\/(l.getD (i-1) (0,0)).1<(l.getD i (0,0)).1)):=by
 unfold okAt;simp only[yL,r9,xw];constructor
 .rintro ⟨⟨⟨⟨a,b⟩,c⟩,d⟩,e⟩;exact⟨a,b,c,d,e⟩
 .rintro ⟨a,b,c,d,e⟩;exact⟨⟨⟨⟨a,b⟩,c⟩,d⟩,e⟩
theorem jL (l:List (Int×Int)) (i) (h):l.getD i (0,0)=l[i]:=by simp[h]
theorem K1 (v) (l) (w) (h:wh w v 2 l.length (wY l)) (hl:l.length<=1000000):
 Calls prog 128 #[v] w fun e w'=>e=.returned (.int .i64 (rd l))/\Below w w w':=by
 obtain⟨a,c,Y,V⟩:=Ya h;obtain⟨n,A⟩:=zA l.length;rw[<-A.o]at Y hl;subst Y;have K:=za V;clear V h;by_cases t:20<n
 .have f:Hid (rd l=2):=by show _=_;unfold rd;rw[<-A.o,ze t]
  go_enter func128,ntmps128
  go_wp2;go_ret;rw[f.o];exact⟨rfl,zB⟩
 .go_enter func128,ntmps128
  go_wp2;go_loopw [10] (fun i wr=>∃k:Nat,k<=n/\i=.int .i64 k/\Hid (∀j,j<k->okAt l j=true)/\Below w w wr) (fun i _=>n-(intOf i).toNat);case atStart=>exact⟨0,by omega,rfl,fun j hj=>by omega,zB⟩
  case round=>
   obtain⟨k,hk,rfl,W,b⟩:=hrel;by_cases J:k<n
   .have q:k<l.length:=(by rw[<-A.o];exact J);obtain⟨g,o,rfl,H,I⟩:=K.o (by omega);obtain⟨x,T⟩:=zA (l[k].1);obtain⟨y,Z⟩:=zA (l[k].2);have c0:wr.cell? (g,o+k*2)=some (.int .i64 x):=(by rw[b.cell (p:=⟨g,o+k*2,none⟩) H,(I k q).1,T.o]);have c1:wr.cell? (g,o+k*2+1)=some (.int .i64 y):=(by rw[b.cell (p:=⟨g,o+k*2+1,none⟩) H,(I k q).2,Z.o]);have r:Hid (l.getD k (0,0)=(x,y)):=(by show _=_;rw[jL l k q,T.o,Z.o]);have d:Hid (okAt l k=false->rd l=3):=fun m=>(by unfold rd;rw[<-A.o,zb t,zb];intro ho;rw[iI ho k q]at m;cases m);have ac:=zo H b.size;have S:=za I;clear I;by_cases P:x<0
    .have f:=za (d.o (by
      cases m:okAt l k with
      | false=>rfl
      | true=>exfalso;have:=(lZ l k).1 m;rw[r.o]at this;simp only at this;omega))
     go_wp2
     go_quiet (fail)
     go_wp2;go_ret;rw[f.o];exact⟨rfl,below_drewN (b.alloc b.size _) _⟩
    have C:0<=x:=(by omega);have aj:=zz P;have an:=za P;clear P;by_cases Q:255<x
    .have f:=za (d.o (by
      cases m:okAt l k with
      | false=>rfl
      | true=>exfalso;have:=(lZ l k).1 m;rw[r.o]at this;simp only at this;omega))
     go_wp2
     go_quiet (fail)
     go_wp2;go_ret;rw[f.o];exact⟨rfl,below_drewN (b.alloc b.size _) _⟩
    have G:x<=255:=(by omega);have ae:=zz Q;have ah:=za Q;clear Q;by_cases R:y<0
    .have f:=za (d.o (by
      cases m:okAt l k with
      | false=>rfl
      | true=>exfalso;have:=(lZ l k).1 m;rw[r.o]at this;simp only at this;omega))
     go_wp2
     go_quiet (fail)
     go_wp2;go_ret;rw[f.o];exact⟨rfl,below_drewN (b.alloc b.size _) _⟩
    have B:0<=y:=(by omega);have ag:=zz R;have ar:=za R;clear R;by_cases M:256<y
    .have f:=za (d.o (by
      cases m:okAt l k with
      | false=>rfl
      | true=>exfalso;have:=(lZ l k).1 m;rw[r.o]at this;simp only at this;omega))
     go_wp2
     go_quiet (fail)
     go_wp2;go_ret;rw[f.o];exact⟨rfl,below_drewN (b.alloc b.size _) _⟩
    have F:y<=256:=(by omega);have ap:=zz M;have aa:=za M;clear M;by_cases D:k=0
    .subst D;have ao:wr.cell? (g,o)=some (.int .i64 x):=(by simpa using c0);have am:wr.cell? (g,o+1)=some (.int .i64 y):=(by simpa using c1);have s:Hid (∀j,j<0+1->okAt l j=true):=fun j hj=>(by obtain rfl:j=0:=(by omega);rw[lZ,r.o];exact⟨C,G,B,F,zr rfl⟩);go_wp2
     go_quiet (fail)
     go_wp2;go_roundw;case rel=>exact⟨0+1,by omega,by go_num,s,below_drewN (b.alloc b.size _) _⟩
     case measure=>simp[intOf];omega
    .obtain⟨j,rfl⟩:∃j,k=j+1:=⟨k-1,by omega⟩;obtain⟨z,U⟩:=zA ((l[j]' (by omega)).1);have cz:wr.cell? ⟨g,o+j*2,none⟩=some (.int .i64 z):=(by rw[b.cell (p:=⟨g,o+j*2,none⟩) H,(S.o j (by omega)).1,U.o]);have E:Hid ((l.getD j (0,0)).1=z):=(by show _=_;rw[jL l j (by omega),U.o]);have ab:IntKind.i64.wrap ((j+1)-1)=j:=(by rw[zQ _ (by omega)];omega);have O:0<(j:Int)+1:=(by omega);have ad:=ya O;have av:j+1-1=(j:Int):=(by omega);have ak:j<(n:Int):=(by omega);clear D;by_cases u:z<x
     .have N:decide (x<=z)=false:=zz (by omega);have s:Hid (∀i,i<j+1+1->okAt l i=true):=fun i X=>by
       by_cases e:i=j+1
       .subst e;rw[lZ,r.o];refine⟨C,G,B,F,zu ?_⟩;rw[ss,E.o];exact u
       .exact W.o i (by omega)
      go_wp2
      go_quiet (fail)
      go_wp2;go_roundw;case rel=>exact⟨j+1+1,by omega,by go_num,s,below_drewN (b.alloc b.size _) _⟩
      case measure=>simp[intOf];omega
     .have L:x<=z:=(by omega);have N:=ya L;have f:=za (d.o (by
       cases m:okAt l (j+1) with
       | false=>rfl
       | true=>
        exfalso;have:=(lZ l (j+1)).1 m;rw[r.o,ss,E.o]at this;simp only at this;omega))
      have af:=za u;clear u;go_wp2
      go_quiet (fail)
      go_wp2;go_ret;rw[f.o];exact⟨rfl,below_drewN (b.alloc b.size _) _⟩
   .have f:Hid (rd l=0):=(by show _=_;unfold rd;rw[<-A.o,zb t,ze (Yl fun i X=>W.o i (by rw[<-A.o]at X;omega))]);go_wp2;go_ret;rw[f.o];exact⟨rfl,b⟩
def mayQ (l:List (Int×Int)) (u has more:Int):Int:=if 0<more/\ofQ l u≠-1/\ofQ l u<has+more then 16 else 0
theorem TX (v) (l) (u has more) (w) (h:wh w v 2 l.length (wY l)) (x:l.length<=1000000) (y:0<=has) (z:has<=256) (A: -256<=more) (B:more<=256):
 Calls prog 157 #[v,.int .i64 u,.int .i64 has,.int .i64 more] w fun e w'=>e=.returned (.int .i64 (mayQ l u has more))/\Below w w w':=by
 obtain⟨q,j⟩:=zA (ofQ l u);have f:Hid (∀W,Below w w W->Calls prog 200 #[v,u] W fun e w'=>e=.returned q/\Below W W w'):=fun W r=>by rw[j.o];exact of_any v l u W (wh.below h r) x
 clear h;by_cases m:0<more
 .by_cases d:q = -1
  .have i:Hid (mayQ l u has more=0):=(by show _=_;unfold mayQ;rw[zb];rintro ⟨_,b,_⟩;exact b (by rw[<-j.o];exact d));subst d;go_enter nQ,oa;go_wp2_with fail
   refine (f.o _ zB).mono ?_;rintro e k ⟨rfl,c⟩;go_wp2;go_ret;rw[i.o];exact⟨rfl,c⟩
  .have s:(q==-1)=false:=(by simpa using d);have t:(q != -1)=true:=(by simpa using d);by_cases g:q<has+more
   .have i:Hid (mayQ l u has more=16):=(by show _=_;unfold mayQ;rw[<-j.o,ze ⟨m,d,g⟩]);have p:=za d;clear d;go_enter nQ,oa;go_wp2_with fail
    refine (f.o _ zB).mono ?_;rintro e k ⟨rfl,c⟩;go_wp2;go_ret;rw[i.o];exact⟨rfl,c⟩
   .have i:Hid (mayQ l u has more=0):=(by show _=_;unfold mayQ;rw[<-j.o,zb];rintro ⟨_,_,b⟩;exact g b);have p:=za d;have n:has+more<=q:=(by omega);clear d g;go_enter nQ,oa;go_wp2_with fail
    refine (f.o _ zB).mono ?_;rintro e k ⟨rfl,c⟩;go_wp2;go_ret;rw[i.o];exact⟨rfl,c⟩
 .have i:Hid (mayQ l u has more=0):=by show _=_;unfold mayQ;rw[zb];rintro ⟨a,_⟩;exact m a
  have n:more<=0:=by omega
  clear m;go_enter nQ,oa;go_wp2_with fail
  refine (f.o _ zB).mono ?_;rintro e k ⟨rfl,c⟩;go_wp2;go_ret;rw[i.o];exact⟨rfl,c⟩
def fnV (gc:Nat):Value:=.func (.func 131) #[] #[(gc,())]
theorem Xv (x y u) (gc) (w) (b:w.cell? ⟨gc,0,none⟩=some (.int .i64 u)):
 Calls prog 131 #[.agg #[.int .i64 x,.int .i64 y],.pointer (some ⟨gc,0,none⟩)] w fun e w'=>e=.returned (.bool (x==u))/\Below w w w':=by
 have a:gc<w.heap.size:=zG b;go_enter func131,ntmps131;go_wp2;go_ret;exact⟨rfl,zB.alloc zL _⟩
def idxQ : List (Int×Int)->Int->Option Nat
 | [],_=>none
 | x::l,u=>if x.1=u then some 0 else (idxQ l u).map (· + 1)
theorem Ox:∀{k} (hk:k<l.length),(∀j (hj:j<k),(l[j]' (by omega)).1≠u)->l[k].1=u->idxQ l u=some k:=by
 induction l with
 | nil=>intro k hk;simp at hk
 | cons x l c=>
  intro k hk b a;cases k with
  | zero=>show (if x.1=u then some 0 else _)=_;rw[ze (show x.1=u from a)]
  | succ k=>
   show (if x.1=u then some 0 else _)=_;rw[zb (show ¬x.1=u from b 0 (by omega)),c (k:=k) (by simpa using hk) (fun j hj=>by have:=b (j+1) (by omega);simpa using this) (by simpa using a)];rfl
theorem Oy:(∀j (hj:j<l.length),l[j].1≠u)->idxQ l u=none:=by
 induction l with
 | nil=>intro _;rfl
 | cons x l b=>
  intro a;show (if x.1=u then some 0 else _)=_;rw[zb (show ¬x.1=u from a 0 (by simp)),b (fun j hj=>by have:=a (j+1) (by simpa using hj);simpa using this)];rfl
def idxI (l:List (Int×Int)) (u:Int):Int:=match idxQ l u with|some k=>k|none=> -1
theorem IL (v:Value) (l:List (Int×Int)) (u:Int) (S:Nat) (w:World) (h:wh w v 2 l.length (wY l)) (T:l.length<=1000000) (R:w.cell? (S,0)=some (.int .i64 u)):
 Calls prog 172 #[v,fnV S] w fun e w'=>e=.returned (.int .i64 (idxI l u))/\Below w w w':=by
 obtain⟨a,c,J,I⟩:=Ya h;obtain⟨n,F⟩:=zA l.length;rw[<-F.o]at J T;subst J;have z:=za I;have D:Hid (∀(x y:Int) (W:World),Below w w W->Calls prog 131 #[.agg #[x,y],(S,())] W fun e w'=>e=.returned (.bool (x==u))/\Below W W w'):=fun x y W M=>
  Xv x y u S W ((M.cell (p:=⟨S,0,none⟩) (zG R)).trans R)
 clear I h R;unfold fnV;go_enter func172,ntmps172;go_wp2;go_loopw [8] (fun i wr=>∃k:Nat,k<=n/\i=.int .i64 k/\Hid (∀j (f:j<l.length),j<k->l[j].1≠u)/\Below w w wr) (fun i _=>n-(intOf i).toNat);case atStart=>exact⟨0,by omega,rfl,fun j _ f=>by omega,zB⟩
 case round=>
  obtain⟨k,O,rfl,E,r⟩:=hrel;by_cases t:k<n
  .have m:k<l.length:=(by rw[<-F.o];exact t);obtain⟨g,o,rfl,H,G⟩:=z.o (by omega);obtain⟨x,A⟩:=zA (l[k].1);obtain⟨y,N⟩:=zA (l[k].2);have P:wr.cell? (g,o+k*2)=some (.int .i64 x):=(by rw[r.cell (p:=⟨g,o+k*2,none⟩) H,(G k m).1,A.o]);have Q:wr.cell? (g,o+k*2+1)=some (.int .i64 y):=(by rw[r.cell (p:=⟨g,o+k*2+1,none⟩) H,(G k m).2,N.o]);clear G;go_wp2_with fail
   refine (D.o x y _ r).mono ?_;by_cases b:x=u
   .have B:Hid (idxI l u=(k:Int)):=(by show _=_;unfold idxI;rw[Ox m (fun j f=>E.o j (by omega) f) (by rw[<-A.o];exact b)]);have s:(x==u)=true:=(by simpa using b);rw[s];clear b s;rintro e K ⟨rfl,d⟩;have q:=zf r d;clear d;go_wp2;go_ret;rw[B.o];exact⟨rfl,q⟩
   .have s:(x==u)=false:=(by simpa using b);have C:Hid (∀j (f:j<l.length),j<k+1->l[j].1≠u):=fun j f L=>by
     by_cases e:j=k
     .subst e;rw[<-A.o];exact b
     .exact E.o j f (by omega)
    rw[s];clear b s;rintro e K ⟨rfl,d⟩;have q:=zf r d;clear d;go_wp2;go_roundw;case rel=>exact⟨k+1,by omega,by go_num,C,q⟩
    case measure=>simp[intOf];omega
  .have B:Hid (idxI l u = -1):=(by show _=_;unfold idxI;rw[Oy fun j f=>E.o j f (by rw[<-F.o]at f;omega)]);go_wp2;go_ret;rw[B.o];exact⟨rfl,r⟩
section
variable {P : Program}
theorem GE (w) (t e) (l:P.underlying t=some (.slice e)) (j:∀w,(zeroValue e).run P w=.ok (.agg #[(),()]) w)
 (g o n c) (cur) (ct) (q:0<n) (p:w.heap[g]?=some (.cells cur ct)) (k:o+n*2<=cur.size):
 ∃zs,zs.length=n*2/\∀ty,(Builtin.clear_ #[t] ty #[.slice (some ⟨g,o,none⟩) n c]).run P w=.ok (.tuple #[]) (w.setRow g (cur.toList.take o++zs++cur.toList.drop (o+zs.length)).toArray):=by
 have a:((Builtin.zeroCells #[(),()] n).toList).length=n*2:=by rw[yv,qG];rfl
 have d:∀v∈(Builtin.zeroCells #[(),()] n).toList,v.oneCell'=true:=by intro v j;simp only[Builtin.zeroCells,Array.toList_map,zU]at j;obtain⟨i,_,rfl⟩:=j;have f:i%2<2:=sr _ (by omega);show (#[Value.int .i64 0,Value.int .i64 0][i%2]!).oneCell'=true;rcases (by omega:i%2=0\/i%2=1) with h|h<;>rw[h]<;>rfl
 refine⟨_,a,fun ty=>?_⟩;have b:=vG P g o ct (Builtin.zeroCells #[(),()] n).toList 0 cur w p (by rw[a];omega) d;simp only[vC]at b;obtain⟨m,rfl⟩:∃m,n=m+1:=⟨n-1,by omega⟩;simp[Builtin.clear_,vE l,j,Value.cells,b]
end
theorem Ti (L:List Value) (p) (x y) (h:p+1<L.length):((L.set p x).set (p+1) y).take (p+2)=L.take p++[x,y]/\∀q,p+2<=q->((L.set p x).set (p+1) y)[q]?=L[q]? :=by
 constructor
 .apply ww;intro q;rw[zI];have a:(L.take p).length=p:=by rw[zj];omega
  by_cases c:q<p
  .rw[ze (by omega),zX (by omega),zI,ze c,wO (by omega),wO (by omega)]
  .rw[zy (by omega),a];by_cases b:q=p
   .subst b;rw[ze (by omega),wO (by omega),tm (by omega),uM];rfl
   .by_cases d:q=p+1
    .subst d;rw[ze (by omega),tm (by rw[xK];omega),show p+1-p=1 by omega];rfl
    .rw[zb (by omega),yj (by simp;omega)]
 .intro q e;rw[wO (by omega),wO (by omega)]
def othQ (l:List (Int×Int)) (u:Int):List (Int×Int):=l.filter fun x=> !(x.1==u)
theorem WD (l:List (Int×Int)) (u) (k) (hk):othQ (l.take (k+1)) u=othQ (l.take k) u++(if (l[k].1==u)=true then [] else [l[k]]):=by
 unfold othQ;rw[<-zR hk,oO]
 congr 1
 cases h:(l[k].1==u)<;>simp[h]
theorem XH:(∀j (hj:j<l.length),l[j].1≠u)->othQ l u=l:=fun h=>by unfold othQ;rw[uQ];intro x a;obtain⟨j,hj,rfl⟩:=uE.1 a;have:=h j hj;simpa using this
theorem Ov (l) (u):(idxQ l u=none/\∀j (hj:j<l.length),l[j].1≠u)\/(∃k,∃hk,idxQ l u=some k/\l[k].1=u/\∀j (hj),j<k->l[j].1≠u):=by
 induction l with
 | nil=>exact zr ⟨rfl,fun j hj=>by simp at hj⟩
 | cons x l d=>
  by_cases a:x.1=u
  .exact zu ⟨0,by simp,by show (if x.1=u then some 0 else _)=_;rw[ze a],a,fun j _ hj=>by omega⟩
  .rcases d with⟨c,b⟩|⟨k,hk,c,b,f⟩
   .refine zr ⟨by show (if x.1=u then some 0 else _)=_;rw[zb a,c];rfl,fun j hj=>?_⟩;cases j with
    | zero=>exact a
    | succ j=>simpa using b j (by simpa using hj)
   .refine zu ⟨k+1,by simpa using hk,by show (if x.1=u then some 0 else _)=_;rw[zb a,c];rfl,by simpa using b,fun j hj e=>?_⟩;cases j with
    | zero=>exact a
    | succ j=>simpa using f j (by simpa using hj) (by omega)
theorem rowZ: ∀w,(zeroValue 187).run prog w=.ok (.agg #[(),()]) w:=fun _=>by kernel_rfl
theorem V2 {B:Nat} {a:World} (h:Below B a w) {g:Nat} (c:B<=g) (cs:Array Value):Below B a (w.setRow g cs):=
 ⟨h.os,h.tape,h.output,by have:=h.size;simp only[World.setRow,nW];exact this,fun k b=>by rw[xh _ _ _ _ (by omega)];exact h.block k b⟩
theorem Lt (B g cap:Nat) (ab:Array Value) (l:List (Int×Int)) (u:Int) (gc n k0:Nat) (w:World) (ae:B<=g) (ar:g<w.heap.size) (au:B<=w.heap.size) (av:gc<B) (am:w.cell? (gc,0)=some (.int .i64 u))
 (HN:Hid (n=l.length)) (hl:n<=1000000) (hn:n<=cap) (an:cap<=maxLen) (HG:Hid (w.heap[g]?=some (.cells ab 187))) (HS:Hid (ab.size=cap*2)) (HT:Hid (ab.toList.take (n*2)=wY l))
 (ax:k0<n) (HI:Hid (idxQ l u=some k0)) (HE:Hid (∀j (hj:j<l.length),j<k0->l[j].1≠u)) (HU:Hid (∀(h:k0<l.length),l[k0].1=u)):
 Calls prog 129 #[(g,0,n,cap),fnV gc] w (no B (othQ l u) w):=by
 have _:=ar;unfold maxLen at an;have ac:Hid (∀(x y:Int) (W:World),Below B w W->Calls prog 131 #[.agg #[x,y],(gc,())] W fun e w'=>e=.returned (.bool (x==u))/\Below W W w'):=fun x y W V=>
  Xv x y u gc W ((V.cell (p:=⟨gc,0,none⟩) av).trans am)
 have L:Hid (∀m (C:m<l.length),ab[m*2]?=some (.int .i64 l[m].1)/\ab[m*2+1]?=some (.int .i64 l[m].2)):=fun m C=>by have h1:=V9 l m C;rw[<-HT.o,zI,zI,ze (by rw[HN.o];omega),ze (by rw[HN.o];omega)]at h1;exact⟨by simpa using h1.1,by simpa using h1.2⟩
 have F:wh w (g,0,n,cap) 2 l.length (wY l):=by refine⟨rN l,zu ⟨g,0,cap,by rw[HN.o],fun j x hj=>?_⟩⟩;rw[yO,zC HG.o];have t:=(zJ.1 hj).1;rw[rN]at t;rw[<-HT.o,zI,ze (by rw[HN.o];omega)]at hj;simpa using hj
 have M:=IL _ l u gc w F (by rw[<-HN.o];exact hl) am;have ai:Hid (idxI l u=(k0:Int)):=by show _=_;unfold idxI;rw[HI.o]
 rw[ai.o]at M;have G:=za M;clear M F am;unfold fnV;unfold fnV at G;go_enter func129,ntmps129;go_wp2_with fail
 refine G.o.mono ?_;rintro e w1 ⟨rfl,E⟩;have ap:Hid (w1.heap[g]?=some (.cells ab 187)):=wy E HG.o;have aa:Below B w w1:=E.mono au;have ao:w.heap.size<=w1.heap.size:=E.size;clear E;have a8:((k0:Int)==-1)=false:=by rw[xr];omega
 go_wp2;go_loopw [5,6] (fun a b wr=>∃i j:Nat,a=.int .i64 i/\b=.int .i64 j/\i<j/\j<=n/\Hid (i=(othQ (l.take j) u).length)/\Hid (∃c:Array Value,wr.heap[g]?=some (.cells c 187)/\c.size=cap*2/\c.toList.take (i*2)=wY (othQ (l.take j) u)/\∀m (C:m<l.length),j<=m->c[m*2]?=some (.int .i64 l[m].1)/\c[m*2+1]?=some (.int .i64 l[m].2))/\Below B w wr/\w.heap.size<=wr.heap.size) (fun _ b _=>n-(intOf b).toNat);case atStart=>
  have U:k0<l.length:=by rw[<-HN.o];exact ax
  have Y:othQ (l.take (k0+1)) u=l.take k0:=by rw[WD l u k0 U,HU.o U,XH fun j hj=>by have aq:j<k0:=(by rw[zj]at hj;omega);rw[nV];exact HE.o j (by omega) aq];simp
  refine⟨k0,k0+1,rfl,by go_num,by omega,by omega,?_,⟨ab,ap.o,HS.o,?_,fun m C _=>L.o m C⟩,aa,ao⟩
  .rw[Y,zj];show k0=_;omega
  .rw[Y];have:ab.toList.take (k0*2)=(wY l).take (k0*2):=(by rw[<-HT.o,vj];congr 1;omega);rw[this];have e2:l=l.take k0++l.drop k0:=(xC k0 l).symm
   conv=>lhs;rw[e2,oZ]
   rw[yT (by rw[rN,zj];omega),zv (by rw[rN,zj];omega)]
 case round=>
  obtain⟨i,j,rfl,rfl,a3,hj,v,HC,Z,hz⟩:=hrel;obtain⟨c,hg,hs,ht,hc⟩:=HC.o;have r:=za hg;have s:=za hs;have A:=za ht;have D:=za hc;clear hg hs ht hc HC;by_cases af:j<n
  .have t:j<l.length:=(by rw[<-HN.o];exact af);obtain⟨x,Hx⟩:=zA (l[j].1);obtain⟨y,Hy⟩:=zA (l[j].2);have a9:g<wr.heap.size:=xR r.o;have c0:wr.cell? (g,j*2)=some (.int .i64 x):=(by rw[zC r.o,(D.o j t zL).1,Hx.o]);have c1:wr.cell? (g,j*2+1)=some (.int .i64 y):=(by rw[zC r.o,(D.o j t zL).2,Hy.o]);go_wp2_with fail
   refine (ac.o x y _ (Z.alloc (by omega) _)).mono ?_;have f:=za (WD l u j t);rw[<-Hx.o]at f;have Q:Hid ((wr.alloc (.cells #[x,y] 187)).heap[g]?=some (.cells c 187)):=tA r.o _;by_cases z:x=u
   .have K:(x==u)=true:=(by simpa using z);rw[K,ze rfl,yX]at f;rw[K];clear z K;rintro e q ⟨rfl,d⟩;have k:Hid (q.heap[g]?=some (.cells c 187)):=wy d Q.o;have J:Below B w q:=(Z.alloc (by omega) _).trans (d.mono (by simp;omega));have I:w.heap.size<=q.heap.size:=(by have:=d.size;simp at this;omega);clear d;go_wp2;go_roundw;case rel=>exact⟨i,j+1,rfl,by go_num,by omega,by omega,by show i=_;rw[f.o];exact v.o,⟨c,k.o,s.o,by rw[f.o];exact A.o,fun m C ad=>D.o m C (by omega)⟩,J,I⟩
    case measure=>simp[intOf];omega
   .have K:(x==u)=false:=(by simpa using z);rw[K,zb (by simp)]at f;rw[K];clear z K;rintro e q ⟨rfl,d⟩;have k:Hid (q.heap[g]?=some (.cells c 187)):=wy d Q.o;have S:Hid (q.heap[wr.heap.size]?=some (.cells #[x,y] 187)):=wy d (zT wr _);have J:Below B w q:=(Z.alloc (by omega) _).trans (d.mono (by simp;omega));have I:w.heap.size<=q.heap.size:=(by have:=d.size;simp at this;omega);clear d;have H:i*2+1<c.size:=(by rw[s.o];omega);obtain⟨v0,X⟩:∃v0,c[i*2]?=some v0:=⟨_,xL (by omega)⟩;obtain⟨v1,R⟩:∃v1,c[i*2+1]?=some v1:=⟨_,xL H⟩;have d0:q.cell? (g,i*2)=some v0:=(by rw[zC k.o];exact X);have d1:q.cell? (g,i*2+1)=some v1:=(by rw[zC k.o];exact R);have f0:q.frozen? (g,i*2)=false:=zF k.o;have f1:q.frozen? (g,i*2+1)=false:=zF k.o;have r0:q.cell? (wr.heap.size,0)=some (.int .i64 x):=(by rw[zC S.o];rfl);have r1:q.cell? (wr.heap.size,1)=some (.int .i64 y):=(by rw[zC S.o];rfl);have aA:(i:Int)<(n:Int):=(by omega);have a6:(0:Int)<=(i:Int):=(by omega);have ak:=za H;clear X R H;go_wp2;go_roundw;case rel=>
     have h2:=Ti c.toList (i*2) (.int .i64 x) (.int .i64 y) (by rw[yv];exact ak.o);refine⟨i+1,j+1,by go_num,by go_num,by omega,by omega,?_,⟨(c.setIfInBounds (i*2) (.int .i64 x)).setIfInBounds (i*2+1) (.int .i64 y),?_,?_,?_,?_⟩,?_,?_⟩
     .show i+1=_;rw[f.o,zm,<-v.o];rfl
     .exact yb _ _ _ _ _ _ (yb _ _ _ _ _ _ k.o)
     .rw[wk,wk];exact s.o
     .rw[wV,wV,show (i+1)*2=i*2+2 by omega,h2.1,A.o,f.o,oZ,Hx.o,Hy.o];rfl
     .intro m C ad;have e0:=h2.2 (m*2) (by omega);have Y:=h2.2 (m*2+1) (by omega);rw[<-zO,<-zO,wV,wV,e0,Y,zO,zO];exact D.o m C (by omega)
     .exact (J.setCell ae _).setCell ae _
     .simpa[World.setCell]using I
    case measure=>simp[intOf];omega
  .obtain rfl:j=n:=(by omega);obtain⟨zs,O,T⟩:=GE (P:=prog) wr 107 187 rowT rowZ g (i*2) (j-i) (cap-i) c 187 (by omega) r.o (by rw[s.o];omega);have a4:i≠cap:=(by omega);have ag:=za O;obtain⟨W,V⟩:∃W,W=wr.setRow g (c.toList.take (i*2)++zs++c.toList.drop (i*2+zs.length)).toArray:=⟨_,rfl⟩;rw[<-V]at T;have N:=za V;clear O V;go_wp2;go_ret;have ah:othQ (l.take j) u=othQ l u:=(by rw[zv (by rw[<-HN.o];omega)]);rw[ah]at A v;refine⟨_,rfl,?_,?_,?_⟩
   .rw[<-v.o];refine⟨by rw[rN,<-v.o],zu ⟨g,cap,_,rfl,ae,by rw[N.o];exact yh _ _ _ _ _ _ r.o,by omega,by unfold maxLen;omega,?_,?_⟩⟩
    .simp[ag.o,s.o];omega
    .have a2:(c.toList.take (i*2)).length=i*2:=(by rw[zj,yv,s.o];omega);rw[zP,yT (by omega),zv (by omega)];exact A.o
   .rw[N.o];exact V2 Z ae _
   .rw[N.o];simpa[World.setRow]using hz
theorem Lu (B:Nat) (a:Option Addr) (n c:Nat) (l:List (Int×Int)) (u:Int) (s:Nat) (w:World) (t:B<=w.heap.size) (r:w.cell? (s,0)=some (.int .i64 u)) (v:n=l.length) (z:n<=1000000)
 (q:w.ownsRow B 187 2 (a,n,c) l.length (wY l)) (x:Hid (idxQ l u=none)) (y:Hid (othQ l u=l)):
 Calls prog 129 #[(a,n,c),fnV s] w (no B (othQ l u) w):=by
 have f:=wh.of_owns q;have g:=IL _ l u s w f (by omega) r;have m:Hid (idxI l u = -1):=by show _=_;unfold idxI;rw[x.o]
 rw[m.o]at g;have d:=za g;have h:=za q;clear g f r q v;unfold fnV;unfold fnV at d;go_enter func129,ntmps129;go_wp2_with fail
 refine d.o.mono ?_;rintro e i ⟨rfl,b⟩;have j:Below B w i:=b.mono t;have k:w.heap.size<=i.heap.size:=b.size;have p:Hid (i.ownsRow B 187 2 (a,n,c) l.length (wY l)):=tB h.o b;clear b;go_wp2;go_ret;refine⟨_,rfl,?_,j,k⟩;rw[y.o];exact p.o
theorem Ka (B:Nat) (v:Value) (l:List (Int×Int)) (u:Int) (x:Nat) (w:World) (y:B<=w.heap.size) (A:x<B) (z:w.cell? (x,0)=some (.int .i64 u)) (C:l.length<=1000000)
 (t:w.ownsRow B 187 2 v l.length (wY l)):
 Calls prog 129 #[v,fnV x] w (no B (othQ l u) w):=by
 rcases Ov l u with⟨b,a⟩|⟨k,m,b,a,n⟩
 .obtain⟨q,c,rfl,_⟩:=tV t;exact Lu B q _ c l u x w y z rfl C t b (XH a)
 .obtain⟨f,⟨_,s⟩|⟨g,d,e,rfl,j,h,r,p,o,i⟩⟩:=t
  .omega
  .exact Lt B g d e l u x _ k w j (xR h) y A z rfl C r p h o i m b n (fun _=>a)
theorem Me (B) (v) (l) (x y) (h) (w) (ab:B<=w.heap.size) (hl:l.length<=1000000) (aa:w.ownsRow B 187 2 v l.length (wY l))
 (hh:w.heap[h]?=some (.cells #[.int .i64 x,.int .i64 y] 187)):
 Calls prog 132 #[v,.int .i64 l.length,.slice (some ⟨h,0,none⟩) 1 1] w (no B (l++[(x,y)]) w):=by
 obtain⟨N,P,q,A,C⟩:=xy ji;have Q:=za P;have E:=za q;have F:=za A;have z:=za C;clear P q A C;have i:=za aa;have HH:=za hh;clear hh;obtain⟨n,O⟩:=zA l.length;rw[<-O.o]at i hl ⊢;have p:∀b,v.ownBlock=some b->B<=b/\b<w.heap.size:=fun b S=>by have:=aa.lt b S;exact⟨this.1,this.2⟩
 have K:=za p;clear p;have s:∀m H,H.ownsRow B 187 2 m (n+1) (wY l++wY [(x,y)])->w.grownBy H v.ownBlock->no B (l++[(x,y)]) w (.returned m) H:=fun m H U M=>by refine⟨m,rfl,?_,xB zB M ab fun r Y=>(K.o r Y).1,M.size⟩;rw[zm,<-O.o,oZ];exact U
 have G:=za s;clear s;have k:∀j u,(wY [(x,y)])[j]?=some u->w.cell? ((⟨h,0,none⟩:Addr).add j)=some u:=fun j u hj=>by
  have D:(⟨h,0,none⟩:Addr).add j=⟨h,0+j,none⟩:=by unfold Addr.add;split<;>simp_all
  rw[D,yO,zC HH.o,<-hj,<-zO];rfl
 have t:=za k;clear k;have Z:(v=.slice none 0 0/\n=0)\/∃g c,v=.slice (some ⟨g,0,none⟩) n c/\n<=c/\c<=maxLen:=by
  obtain⟨_,⟨a,b⟩|⟨g,c,W,e,_,_,V,e3,_⟩⟩:=i.o
  .exact zr ⟨a,b⟩
  .exact zu ⟨g,c,e,V,e3⟩
 clear aa;rcases Z with⟨rfl,L⟩|⟨g,c,rfl,X,I⟩
 .subst L;go_enter nR,od;go_wp2_with (at_builtin;refine yI _ rfl _ _ 107 rfl B 187 N (.agg #[(),()]) 2 16 rowT Q.o E.o F.o z.o rfl (by decide) _ _ _ rfl i.o ⟨h,0,none⟩ 1 1 (wY [(x,y)]) rfl rfl t.o (Zo _) (by unfold maxLen;omega) (by omega) ab ?_;intro m R d f _)
  go_ret;exact G.out _ _ d f
 .unfold maxLen at I;by_cases J:n=c;all_goals
   have T:=za J;go_enter nR,od;go_wp2_with (at_builtin;refine yI _ rfl _ _ 107 rfl B 187 N (.agg #[(),()]) 2 16 rowT Q.o E.o F.o z.o rfl (by decide) _ _ _ rfl i.o ⟨h,0,none⟩ 1 1 (wY [(x,y)]) rfl rfl t.o (Zo _) (by unfold maxLen;omega) (by omega) ab ?_;intro m R d f _)
   go_ret;exact G.out _ _ d f
theorem rowSz: ∀w,(Go.sizeOf 187).run prog w=.ok 2 w:=fun w=>by kernel_rfl
theorem Tu (w) (h g o lb cb) (x y) (cur) (a:h≠g) (b:w.heap[h]?=some (.cells #[.int .i64 x,.int .i64 y] 187))
 (c:w.heap[g]?=some (.cells cur 187)) (d:cur.size≠0):
 (callFunc 173 #[.slice (some ⟨h,0,none⟩) 1 1,.slice (some ⟨g,o,none⟩) lb cb]).run prog w=.ok (.value (.bool false)) w:=by
 rw[run_callFunc_extern func173 (by kernel_rfl) (by kernel_rfl) (by kernel_rfl) (e:=Extern.SlicesOverlaps.overlaps #[107,107] #[4]) (by kernel_rfl),
  Lib.run_overlaps_apart w 107 4 187 rowT 2 rowSz ⟨h,0,none⟩ ⟨g,o,none⟩ 1 1 lb cb a 187 187 2 cur.size (by simp[World.shape?,b]) (by simp[World.shape?,c]) d (by simp[World.frozen?,b]) (by simp[World.frozen?,b])]
 rfl
theorem UJ (l) (i) (b:i<=l.length):wY (l.drop i)=(wY l).drop (i*2)/\wY (l.take i)=(wY l).take (i*2):=by
 have e:wY l=wY (l.take i)++wY (l.drop i):=by rw[<-oZ,xC]
 have a:(wY (l.take i)).length=i*2:=by rw[rN,zj];omega
 constructor
 .rw[e,<-a,List.drop_left]
 .rw[e,<-a,qM]
theorem Lg (B g cap i n:Nat) (cur:Array Value) (l:List (Int×Int)) (x y:Int) (h:Nat) (w:World) (aa:B<=g) (HN:Hid (n=l.length)) (hl:n<=1000000) (ak:i<n) (ah:n+1<=cap) (ae:cap<=maxLen) (af:Hid (h≠g))
 (HG:Hid (w.heap[g]?=some (.cells cur 187))) (HS:Hid (cur.size=cap*2)) (HT:Hid (cur.toList.take (n*2)=wY l)) (HH:Hid (w.heap[h]?=some (.cells #[x,y] 187))):
 Calls prog 132 #[(g,0,n,cap),i,.slice (some ⟨h,0,none⟩) 1 1] w (no B (l.take i++[(x,y)]++l.drop i) w):=by
 unfold maxLen at ae;have t:∀o H E,(callFunc 173 #[.slice (some ⟨h,0,none⟩) 1 1,.slice (some ⟨g,o,none⟩) H E]).run prog w=.ok (.value (.bool false)) w:=fun o H E=>
  Tu w h g o H E x y cur af.o HH.o HG.o (by rw[HS.o];omega)
 have M:(i:Int)<(n:Int):=by omega
 have O:((i:Int)==(n:Int))=false:=by rw[xr];omega
 have S:(i==n)=false:=by rw[xr];omega
 have V:decide (i=n)=false:=zz (by omega);have Q:i≠cap:=by omega
 have K:i+1≠cap:=by omega
 have p1:=zW ((i:Int)+1) (by omega);have W:((i:Int)+1).toNat=i+1:=by omega
 have Y:(0:Int)<=(i:Int)+1:=by omega
 have Z:(i:Int)+1<=(n:Int)+1:=by omega
 have p7:¬cap=i+1:=by omega
 have p8:¬cap=i:=by omega
 have p9:(i:Int)<=(n:Int)+1:=by omega
 have X:¬(cap:Int)<(n:Int)+1:=by omega
 go_enter nR,od
 go_wp2_with (simp only[t])
 go_still_tail 8,(by kernel_rfl)
 go_wp2_with fail
 obtain⟨a,b⟩:=zA (wY (l.drop i));have f:a.length=(n-i)*2:=by rw[b.o,rN,yB,HN.o]
 have p:∀(j:Nat) (v:Value),a[j]?=some v->w.drew.cell? ((⟨g,i*2,none⟩:Addr).add j)=some v:=fun j v u=>by
  have e:(⟨g,i*2,none⟩:Addr).add j=⟨g,i*2+j,none⟩:=by unfold Addr.add;split<;>simp_all
  have N:=(zJ.1 u).1;rw[e,wM w.drew g (i*2+j) cur 187 (0,0) HG.o];rw[b.o,(UJ l i (by rw[<-HN.o];omega)).1,yw,<-HT.o,zI,ze (by omega)]at u;simpa using u
 rw[U2 (P:=prog) w.drew 107 107 _ 187 2 g ((i+1)*2) (n-i) (cap-(i+1)) ⟨g,i*2,none⟩ (n+1-i) (cap-i) cur 187 a rowT rowS HG.o (by rw[f];congr 1;show n-i=min (n+1-i) (n-i);omega) p (by rw[f,HS.o];omega) (by rw[b.o];exact Zo _)];obtain⟨c,k⟩:=zA ((cur.toList.take ((i+1)*2)++a++cur.toList.drop ((i+1)*2+a.length)).toArray);rw[<-k.o];have z:Hid ((w.drew.setRow g c).heap[g]?=some (.cells c 187)):=yh w.drew _ _ _ _ _ HG.o;have D:Hid ((w.drew.setRow g c).heap[h]?=some (.cells #[x,y] 187)):=jX (w:=w.drew) HH.o _ _ af.o;have G:Below B w (w.drew.setRow g c):=V2 (x9 B w).drew aa _;have I:w.heap.size<=(w.drew.setRow g c).heap.size:=by simp[World.setRow]
 have r:c.size=cap*2:=by rw[k.o];simp[f,HS.o];omega
 generalize w.drew.setRow g c=L at *
 have d:∀(j:Nat) (v:Value),(wY [(x,y)])[j]?=some v->L.cell? ((⟨h,0,none⟩:Addr).add j)=some v:=fun j v u=>by
  have e:(⟨h,0,none⟩:Addr).add j=⟨h,0+j,none⟩:=by unfold Addr.add;split<;>simp_all
  rw[e,yO,zC D.o,<-u,<-zO];rfl
 have s:=fun U=>U2 (P:=prog) L 107 107 U 187 2 g (i*2) (n+1-i) (cap-i) ⟨h,0,none⟩ 1 1 c 187 (wY [(x,y)]) rowT rowS z.o (by show 2=min 1 (n+1-i)*2;omega) d (by show i*2+2<=_;rw[r];omega) (Zo _);obtain⟨R,q⟩:=zA ((c.toList.take (i*2)++wY [(x,y)]++c.toList.drop (i*2+(wY [(x,y)]).length)).toArray);rw[<-q.o]at s;have A:=za f;have J:=za r;clear p d f r t;go_wp2;go_ret;refine⟨_,rfl,?_,V2 G aa _,by simpa[World.setRow]using I⟩;have m:(l.take i++[(x,y)]++l.drop i).length=n+1:=by simp only[zm,zj,yB,yx,xS];have:=HN.o;omega
 rw[m];have C:c.toList.take (i*2)=wY (l.take i):=by
  rw[k.o,(UJ l i (by rw[<-HN.o];omega)).2,<-HT.o];show (cur.toList.take ((i+1)*2)++a++_).take (i*2)=_;rw[zP,yT (by rw[zj,yv,HS.o];omega),vj,vj]
  congr 1
  omega
 have F:c.toList.drop (i*2+2)=a++cur.toList.drop ((i+1)*2+a.length):=by rw[k.o];show (cur.toList.take ((i+1)*2)++a++_).drop (i*2+2)=_;rw[zP,ur (by rw[zj,yv,HS.o];omega),yP (by rw[zj,yv,HS.o];omega),yU]
 refine⟨by rw[rN,m],zu ⟨g,cap,R,rfl,aa,yh _ _ _ _ _ _ z.o,by omega,by unfold maxLen;omega,?_,?_⟩⟩
 .rw[q.o];simp[J.o,rN];omega
 .rw[q.o];show (c.toList.take (i*2)++wY [(x,y)]++c.toList.drop (i*2+2)).take ((n+1)*2)=_;rw[C,F,oZ,oZ,<-b.o,<-zP];have T:(wY (l.take i)++wY [(x,y)]++a).length=(n+1)*2:=by rw[zm,zm,rN,rN,A.o,zj];have:=HN.o;simp only[yx,xS];omega
  rw[yT (by omega),zv (by omega)]
