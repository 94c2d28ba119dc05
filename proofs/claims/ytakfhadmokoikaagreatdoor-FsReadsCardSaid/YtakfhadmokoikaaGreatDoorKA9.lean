import Derived.Test.YtakfhadmokoikaaGreatDoorKA3
import Derived.Test.YtakfhadmokoikaaGreatDoorKA8
import Derived.Laws.AppendOwn
set_option maxHeartbeats 0
set_option linter.all false
set_option maxRecDepth 100000
namespace Go.Proofs.YtakfhadmokoikaaGreatDoor
open Go.Proofs.Tryz Go.RowKit
variable {k:Nat}
structure Fo where
 nd:Nat->Nat->Int
 hs:Nat->Nat->Bool
def uO (f:Fo) (k j:Nat):Value:=if j<16 then .int .i64 (f.nd k j) else .int .u8 (tD (f.hs k) (j-16))
def encF (f:Fo):Array Value:=Array.ofFn (n:=192) fun i=>uO f (i.val / 48) (i.val%48)
def encT (f:Fo) (k:Nat):Array Value:=Array.ofFn (n:=48) fun j=>uO f k j.val
def encN (f:Fo) (k:Nat):Array Value:=Array.ofFn (n:=16) fun j=>uO f k j.val
theorem uh (f:Fo):(encF f).size=192:=by simp[encF]
theorem oV (f:Fo) (k:Nat):(encT f k).size=48:=by simp[encT]
theorem VJ (f:Fo) (k:Nat):(encN f k).size=16:=by simp[encN]
theorem sS (f:Fo) (k j:Nat) (a:k<4) (b:j<48):(encF f)[k*48+j]?=some (uO f k j):=by
 have h:k*48+j<192:=by omega
 simp only[encF,pu,dif_pos h];rw[show (k*48+j) / 48=k by omega,show (k*48+j)%48=j by omega]
theorem fq (f:Fo) (k j:Nat) (a:j<48):(encT f k)[j]?=some (uO f k j):=by simp only[encT,pu,dif_pos a]
theorem Vy (f:Fo) (k j:Nat) (a:j<16):(encN f k)[j]?=some (uO f k j):=by simp only[encN,pu,dif_pos a]
theorem Wl (f:Fo) (k j:Nat):(uO f k j).oneCell'=true:=by unfold uO;split<;>rfl
theorem nw (f:Fo):(encF f).all (·.oneCell')=true:=by rw[xZ];intro x a;obtain⟨i,b,rfl⟩:=Array.mem_iff_getElem.1 a;simp only[encF,Array.getElem_ofFn];exact Wl _ _ _
theorem Vw (f:Fo) (k:Nat):(encT f k).all (·.oneCell')=true:=by rw[xZ];intro x a;obtain⟨i,b,rfl⟩:=Array.mem_iff_getElem.1 a;simp only[encT,Array.getElem_ofFn];exact Wl _ _ _
theorem WB (f:Fo) (k:Nat) (b:k<4):∀j,j<(enc (f.hs k)).size->(encF f)[k*48+16+j]?=(enc (f.hs k))[j]? :=fun j a=>by rw[tF]at a;rw[yA,sS f k (16+j) b (by omega),pQ _ _ a];unfold uO;rw[zb (by omega),show 16+j-16=j by omega]
theorem VE (f:Fo) (k:Nat) (b:k<4):∀j,j<(encT f k).size->(encF f)[k*48+j]?=(encT f k)[j]? :=fun j a=>by rw[oV]at a;rw[sS f k j b a,fq f k j a]
theorem Ky (f:Fo) (k:Nat) (b:k<4):∀j,j<(encN f k).size->(encF f)[k*48+j]?=(encN f k)[j]? :=fun j a=>by rw[VJ]at a;rw[sS f k j b (by omega),Vy f k j a]
def vN (f:Fo) (k:Nat):Bool:= !(f.nd k 0==0)
theorem forT: prog.underlying 95=some (.array 4 93):=by kernel_rfl
theorem forI: (prog.info? 95).map (·.size)=some 192:=by kernel_rfl
theorem qR: (prog.info? 93).map (·.size)=some 48:=by kernel_rfl
theorem m9: (prog.info? 89).map (·.size)=some 16:=by kernel_rfl
theorem QE (A:Array Value) (k:Nat) (x:Int) (w:World) (h:k<4) (i:A[k*48]?=some (.int .i64 x)):
 Calls prog 100 #[.agg A,k] w fun e w'=>e=.returned (.bool (!(x==0)))/\Below w w w':=by
 have c:(k:Int)<4:=by omega
 have d:(0:Int)<=(k:Int):=by omega
 by_cases a:x=0
 .subst a;go_enter func100,ntmps100;go_wp2;go_ret;exact⟨rfl,zB.alloc zL _⟩
 .have b:(x==0)=false:=by simpa using a
  have g:(x != 0)=true:=by simpa using a
  have f:=Lib.hid a;clear a;go_enter func100,ntmps100;go_wp2;go_ret;rw[b];exact⟨rfl,zB.alloc zL _⟩
theorem jy (f:Fo) (k:Nat) (w:World) (a:k<4):
 Calls prog 100 #[.agg (encF f),k] w fun e w'=>e=.returned (.bool (vN f k))/\Below w w w':=
 QE _ k (f.nd k 0) w a (by have:=sS f k 0 a (by omega);rw[vA]at this;rw[this];rfl)
def uT (f:Fo):Nat->Nat->Bool
 | 0=>emp
 | 1=>emp
 | k+2=>if vN f (k+1) then join (uT f (k+1)) (f.hs (k+1)) else uT f (k+1)
def ry (f:Fo):Nat->Nat->Bool
 | 0=>emp
 | k+1=>if vN f k then join (ry f k) (f.hs k) else ry f k
theorem Iq (f:Fo) (n k:Nat) (c:1<=k) (h:uT f k n=true):∀m,uT f (k+m) n=true
 | 0=>h
 | m+1=>by
  have a:=Iq f n k c h m;obtain⟨j,b⟩:∃j,k+m=j+1:=⟨k+m-1,by omega⟩;rw[show k+(m+1)=j+2 by omega];rw[b]at a;show (if vN f (j+1)=true then join (uT f (j+1)) (f.hs (j+1)) else uT f (j+1)) n=true;split
  .show (uT f (j+1) n||f.hs (j+1) n)=true;rw[a];rfl
  .exact a
theorem Tf (A:Array Value) (n:Nat) (d:256<=n) (w:World):
 Calls prog 161 #[.agg A,n] w fun e w'=>e=.returned (.bool false)/\Below w w w':=by
 have a:decide ((n:Int)<256)=false:=by rw[zJ];omega
 have b:¬(n:Int)<256:=by omega
 have c:decide ((0:Int)<=(n:Int))=true:=by rw[yJ];omega
 go_enter func161,ntmps161
 go_wp2;go_ret;exact⟨rfl,zB.alloc zL _⟩
theorem Jf (f:Fo) (A:Array Value) (O:Hid (A=encF f)) (n:Nat) (P:n<256\/∀k,f.hs k n=false) (w:World):
 Calls prog 125 #[.agg A,n] w fun e w'=>e=.returned (.bool (uT f 4 n))/\Below w w w':=by
 have C:Hid (A.size=192):=by rw[O.o];exact uh f
 go_enter func125,ntmps125
 go_wp2;go_loopw [5] (fun i wr=>∃k:Nat,1<=k/\k<=4/\i=.int .i64 k/\Hid (uT f k n=false)/\Hid (wr.heap[w.heap.size]?=some (.cells A 95))/\Below w w wr) (fun i _=>4-(intOf i).toNat);case atStart=>exact⟨1,by omega,by omega,rfl,rfl,zH,zB.alloc zL _⟩
 case round=>
  obtain⟨k,K,N,rfl,F,y,z⟩:=hrel;by_cases p:k<4
  .have G:(k:Int)<4:=(by omega);have L:(0:Int)<=(k:Int):=(by omega);obtain⟨j,rfl⟩:∃j,k=j+1:=⟨k-1,by omega⟩;generalize r:j+1=k at *
   have u:=Lib.hid r;clear r;have B:Hid (∀W:World,Calls prog 100 #[.agg A,k] W fun e w'=>e=.returned (.bool (vN f k))/\Below W W w'):=fun W=>(by rw[O.o];exact jy f k W p);have b:Hid (uT f (k+1) n=(vN f k&&f.hs k n)):=by
    show _=_;have x:=F.o;rw[<-u.o]at x ⊢;show (if vN f (j+1)=true then join (uT f (j+1)) (f.hs (j+1)) else uT f (j+1)) n=_;cases vN f (j+1) with
    | true=>rw[ze rfl];show (uT f (j+1) n||f.hs (j+1) n)=_;rw[x];simp
    | false=>rw[zb (by simp),x];simp
   have l:Hid (∀W:World,Calls prog 161 #[.agg (enc (f.hs k)),n] W fun e w'=>e=.returned (.bool (f.hs k n))/\Below W W w'):=fun W=>by
    by_cases q:n<256
    .have:=io (f.hs k) (n:Int) W (by omega) (by omega);rw[yy]at this;exact this
    .rw[(P.resolve_left q) k];exact Tf _ n (by omega) W
   have I:Hid (∀j,j<(enc (f.hs k)).size->A[k*48+16+j]?=(enc (f.hs k))[j]?):=(by rw[O.o];exact WB f k p);obtain⟨E,H⟩:=zA (enc (f.hs k));have v:Hid (E.size=32):=(by rw[H.o];exact tF _);rw[<-H.o]at l I;go_wp2_with (refine yQ rfl 95 (.tmp 2) rfl w rfl 95 A (0,0) _ y.o forT rfl (by rw[C.o];exact forI) ?_)
   refine (B.o _).mono ?_;cases g:vN f k with
   | false=>
    rintro e J ⟨rfl,a⟩;rw[g]at b;have h:=Lib.hid (we a y.o);have d:=Below.step z a;clear g a;go_wp2;go_roundw;case rel=>exact⟨k+1,by omega,by omega,by go_num,b.o,h,d⟩
    case measure=>simp[intOf];omega
   | true=>
    rintro e J ⟨rfl,a⟩;rw[g,uq]at b;have h:=Lib.hid (we a y.o);have d:=Below.step z a;clear g a;go_wp2_with (refine pR (by kernel_rfl) 91 (.tmp 16) rfl w (k*48+16) rfl 95 A E (0,0) _ h.o I.o setT rfl (by rw[v.o];exact setI) ?_)
    refine (l.o _).mono ?_;cases t:f.hs k n with
    | true=>
     rintro e M ⟨rfl,c⟩;have m:=Below.step d c;have s:Hid (uT f 4 n=true):=(by have:=Iq f n (k+1) (by omega) (by rw[b.o];exact t) (4-(k+1));rw[show k+1+(4-(k+1))=4 by omega]at this;exact this);clear t c;go_wp2;go_ret;rw[s.o];exact⟨rfl,m⟩
    | false=>
     rintro e M ⟨rfl,c⟩;have m:=Below.step d c;have D:=Lib.hid (we c h.o);rw[t]at b;clear t c;go_wp2;go_roundw;case rel=>exact⟨k+1,by omega,by omega,by go_num,b.o,D,m⟩
     case measure=>simp[intOf];omega
  .obtain rfl:k=4:=(by omega);go_wp2;go_ret;rw[F.o];exact⟨rfl,z⟩
theorem QS (f:Fo) (n:Nat) (a:n<256) (w:World):
 Calls prog 125 #[.agg (encF f),n] w fun e w'=>e=.returned (.bool (uT f 4 n))/\Below w w w':=Jf f _ rfl n (zt a) w
theorem QF (f:Fo) (A Y:Array Value) (Z:Hid (A=encF f)) (H4:Hid (Y=enc (ry f 4))) (w:World):
 Calls prog 159 #[.agg A] w fun e w'=>e=.returned (.agg Y)/\Below w w w':=by
 have K:Hid (A.size=192):=by rw[Z.o];exact uh f
 obtain⟨q,r⟩:=zA (enc emp);have Q:∀w,(zeroValue 91).run prog w=.ok (.agg q) w:=by rw[r.o];exact setZ
 have V:=Lib.hid Q;clear Q;go_enter func159,ntmps159;go_wp2_with (refine om rfl 91 rfl q V.o ?_)
 go_loopw [5] (fun i wr=>∃k:Nat,k<=4/\i=.int .i64 k/\Hid (wr.heap[w.heap.size]?=some (.cells A 95))/\Hid (wr.heap[w.heap.size+1]?=some (.cells q 91))/\Hid (wr.heap[w.heap.size+2]?=some (.cells (enc (ry f k)) 91))/\Below w w wr) (fun i _=>4-(intOf i).toNat)
 case atStart=>
  refine⟨0,by omega,rfl,?_,?_,?_,((zB.alloc zL _).alloc (by simp) _).alloc (by simp;omega) _⟩
  .exact tf (tf (zT w _) _) _
  .exact tf (jD _ _ _ (by simp)) _
  .rw[show enc (ry f 0)=q from r.o.symm];exact jD _ _ _ (by simp)
 case round=>
  obtain⟨k,X,rfl,D,y,v,F⟩:=hrel;by_cases s:k<4
  .have R:(k:Int)<4:=(by omega);have U:(0:Int)<=(k:Int):=(by omega);have I:Hid (∀W:World,Calls prog 100 #[.agg A,k] W fun e w'=>e=.returned (.bool (vN f k))/\Below W W w'):=fun W=>(by rw[Z.o];exact jy f k W s);have T:Hid (∀j,j<(enc (f.hs k)).size->A[k*48+16+j]?=(enc (f.hs k))[j]?):=(by rw[Z.o];exact WB f k s);obtain⟨E,O⟩:=zA (enc (f.hs k));have B:Hid (E.size=32):=(by rw[O.o];exact tF _);rw[<-O.o]at T;obtain⟨S,h⟩:=zA (enc (ry f k));have b:Hid (S.size=32):=(by rw[h.o];exact tF _);rw[<-h.o]at v;go_wp2_with (refine yQ rfl 95 (.tmp 1) rfl w rfl 95 A (0,0) _ D.o forT rfl (by rw[K.o];exact forI) ?_)
   refine (I.o _).mono ?_;cases g:vN f k with
   | false=>
    rintro e P ⟨rfl,a⟩;have n:Hid (ry f (k+1)=ry f k):=(by show (if vN f k=true then _ else _)=_;rw[g,zb (by simp)]);have l:=Lib.hid (we a D.o);have p:=Lib.hid (we a y.o);have c:Hid (P.heap[w.heap.size+2]?=some (.cells (enc (ry f (k+1))) 91)):=(by rw[n.o,<-h.o];exact we a v.o);have m:=Below.step F a;clear g a;go_wp2;go_roundw;case rel=>exact⟨k+1,by omega,by go_num,l,p,c,m⟩
    case measure=>simp[intOf];omega
   | true=>
    rintro e P ⟨rfl,a⟩;have n:Hid (ry f (k+1)=join (ry f k) (f.hs k)):=(by show (if vN f k=true then _ else _)=_;rw[g,ze rfl]);have l:=Lib.hid (we a D.o);have p:=Lib.hid (we a y.o);have c:=Lib.hid (we a v.o);have m:=Below.step F a;obtain⟨J,x⟩:=zA (enc (ry f (k+1)));have u:Hid (J.size=32):=(by rw[x.o];exact tF _);have C:Hid (J.all (·.oneCell')=true):=(by rw[x.o];exact lO _);have N:Hid (∀W:World,Calls prog 206 #[.agg S,.agg E] W fun e w'=>e=.returned (.agg J)/\Below W W w'):=fun W=>(by rw[h.o,O.o,x.o,n.o];exact Rm _ _ W);clear g a;go_wp2_with fail
    refine wp_region_still_tail 5 (by kernel_rfl) (by kernel_rfl) ?_;simp only[wV,xE,wX,wz];refine IX (by kernel_rfl) 91 (.tmp 3) rfl (w.heap.size+2) 0 rfl 91 S S (0,0) _ c.o (SJ S) setT rfl (by rw[b.o];exact setI) ?_
    still_step
    still_step
    still_step
    refine IX (by kernel_rfl) 91 (.tmp 14) rfl w (k*48+16) rfl 95 A E (0,0) _ l.o T.o setT rfl (by rw[B.o];exact setI) ?_;refine wpStill_nil ?_;go_wp2_with fail
    refine (N.o _).mono ?_;rintro e z ⟨rfl,d⟩;have M:Hid (z.heap[w.heap.size]?=some (.cells A 95)):=we d l.o;have G:Hid (z.heap[w.heap.size+1]?=some (.cells q 91)):=we d p.o;have t:Hid (z.heap[w.heap.size+2]?=some (.cells S 91)):=we d c.o;have L:Below w w z:=Below.step m.drew d;clear d;go_wp2_with (refine yD rfl 91 (.tmp 3) (.tmp 16) rfl (w.heap.size+2) J rfl rfl 91 S t.o (by rw[u.o];exact setI) (by rw[u.o,b.o]) C.o ?_)
    go_roundw;case rel=>exact⟨k+1,by omega,by go_num,jF M.o _ _ (by omega),jF G.o _ _ (by omega),by rw[<-x.o];exact yi _ _ _ _ _ _ t.o,Below.setRow L (by omega) _⟩
    case measure=>simp[intOf];omega
  .obtain rfl:k=4:=(by omega);have b:Hid (Y.size=32):=(by rw[H4.o];exact tF _);have c:Hid (Y.all (·.oneCell')=true):=(by rw[H4.o];exact lO _);have H:Hid (q.size=32):=(by rw[r.o];exact tF _);rw[<-H4.o]at v;go_wp2_with (first
    | (refine yQ rfl 91 (.tmp 3) rfl (w.heap.size+2) rfl 91 Y (0,0) _ v.o setT rfl (by rw[b.o];exact setI) ?_)
    | (refine yD rfl 91 (.tmp 2) (.tmp 18) rfl (w.heap.size+1) Y rfl rfl 91 q y.o (by rw[b.o];exact setI) (by rw[b.o,H.o]) c.o ?_))
   refine yS (rd rfl _ _ (w.heap.size+1) 91 Y (0,0) _ rfl (yi _ _ _ _ _ _ y.o) setT rfl (by rw[b.o];exact setI)) rfl ⟨rfl,?_⟩;exact Below.setRow F (by omega) _
theorem XD (f:Fo) (w:World):
 Calls prog 159 #[.agg (encF f)] w fun e w'=>e=.returned (.agg (enc (ry f 4)))/\Below w w w':=QF f _ _ rfl rfl w
def tA : Fo:=⟨fun _ _=>0,fun _=>emp⟩
theorem forZ: ∀w,(zeroValue 95).run prog w=.ok (.agg (encF tA)) w:=(uW (P:=prog) (t:=95) (v:=.agg (encF tA)) (n:=192) (by kernel_rfl)).1
theorem forB: prog.built 95 []=some (encF tA):=by kernel_rfl
def putT (f:Fo) (k:Nat):Fo:=⟨fun a=>if a=k then f.nd 0 else f.nd a,fun a=>if a=k then f.hs 0 else f.hs a⟩
section
variable {P : Program}
theorem K0 {fn:Func} {p q r:Tmp} {ty:TypeId} (h:fn.results=#[.cell p ty,.tmp q,.tmp r]) (tmps:Array Value) (w:World) (g:Nat) (t:TypeId) (cs:Array Value) (fr:Nat×Nat) (d:TypeDesc) (v1 v2:Value)
 (hp:tmps.getD p undef=.pointer (some ⟨g,0,none⟩)) (h1:tmps.getD q undef=v1) (h2:tmps.getD r undef=v2) (hg:w.heap[g]?=some (.cells cs t fr))
 (hu:P.underlying ty=some d) (hd:(match d with|.struct _|.array _ _=>true|_=>false)=true) (hi:(P.info? ty).map (·.size)=some cs.size):
 (results fn tmps).run P w=.ok (.tuple #[.agg cs,v1,v2]) w:=by
 have c:tmps[p]?.getD undef=.pointer (some ⟨g,0,none⟩):=by simpa using hp
 have a:tmps[q]?.getD undef=v1:=by simpa using h1
 have b:tmps[r]?.getD undef=v2:=by simpa using h2
 simp[results,h,c,a,b,asAddr,lV w g t ty cs fr d hg hu hd hi]
theorem Zx {fn:Func} {p q:Tmp} {ty:TypeId} (h:fn.results=#[.cell p ty,.tmp q]) (tmps:Array Value) (w:World) (g:Nat) (t:TypeId) (cs:Array Value) (fr:Nat×Nat) (d:TypeDesc) (v1:Value)
 (hp:tmps.getD p undef=.pointer (some ⟨g,0,none⟩)) (h1:tmps.getD q undef=v1) (hg:w.heap[g]?=some (.cells cs t fr))
 (hu:P.underlying ty=some d) (hd:(match d with|.struct _|.array _ _=>true|_=>false)=true) (hi:(P.info? ty).map (·.size)=some cs.size):
 (results fn tmps).run P w=.ok (.tuple #[.agg cs,v1]) w:=by
 have b:tmps[p]?.getD undef=.pointer (some ⟨g,0,none⟩):=by simpa using hp
 have a:tmps[q]?.getD undef=v1:=by simpa using h1
 simp[results,h,b,a,asAddr,lV w g t ty cs fr d hg hu hd hi]
end
theorem SD (f:Fo) (k:Nat) (m:k<4):((encF f).toList.take (k*48)++(encT f 0).toList++(encF f).toList.drop (k*48+(encT f 0).size)).toArray=encF (putT f k):=by
 apply yV;intro i;rw[oV];by_cases l:i<192
 .obtain⟨a,j,e,c,rfl⟩:∃a j,a<4/\j<48/\i=a*48+j:=⟨i / 48,i%48,by omega,by omega,by omega⟩;rw[sS _ a j e c,xB];have b:((encF f).toList.take (k*48)).length=k*48:=by rw[zi,yp,uh];omega
  have d:(encT f 0).toList.length=48:=by rw[yp,oV]
  by_cases h:a<k
  .rw[zU,zO (by omega),zI,ze (by omega),zP,sS f a j e c];unfold uO putT;simp only[zb (by omega:¬a=k)]
  .by_cases g:a=k
   .subst g;rw[zU,zx (by omega),zO (by omega),b,show a*48+j-a*48=j by omega,zP,fq f 0 j c];unfold uO putT;simp only[vl]
   .rw[zx (by rw[zl];omega),zl,b,d,yo,show k*48+48+(a*48+j-(k*48+48))=a*48+j by omega,zP,sS f a j e c];unfold uO putT;simp only[zb g]
 .rw[ya (by simp[uh,oV];omega),ya (by rw[uh];omega)]
def nY (f:Fo):Option Nat:=if vN f 1=false then some 1 else if vN f 2=false then some 2 else if vN f 3=false then some 3 else none
def sU (f:Fo):Fo×Nat×Int:=if vN f 0=true then (match nY f with|some k=>(putT f k,k,0)|none=>(tA,0,6)) else (tA,0,4)
theorem OP {f:Fo} (c:1<=k) (d:k<4) (a:∀j,1<=j->j<k->vN f j=true) (b:vN f k=false):nY f=some k:=by
 unfold nY
 match k,c,d with
 | 1,_,_=>rw[ze b]
 | 2,_,_=>rw[zb (by rw[a 1 (by omega) (by omega)];simp),ze b]
 | 3,_,_=>rw[zb (by rw[a 1 (by omega) (by omega)];simp),zb (by rw[a 2 (by omega) (by omega)];simp),ze b]
theorem OQ {f:Fo} (a:∀j,1<=j->j<4->vN f j=true):nY f=none:=by unfold nY;rw[zb (by rw[a 1 (by omega) (by omega)];simp),zb (by rw[a 2 (by omega) (by omega)];simp),zb (by rw[a 3 (by omega) (by omega)];simp)]
theorem Sm (f:Fo) (A X:Array Value) (n:Nat) (c:Int) (HA:Hid (A=encF f)) (HX:Hid (X=encF (sU f).1)) (Hn:Hid (n=(sU f).2.1)) (Hc:Hid (c=(sU f).2.2)) (w:World):
 Calls prog 118 #[.agg A] w fun e w'=>e=.returned (.tuple #[.agg X,n,c])/\Below w w w':=by
 have z:Hid (A.size=192):=by rw[HA.o];exact uh f
 have p:Hid (X.size=192):=by rw[HX.o];exact uh _
 have Z:Hid (X.all (·.oneCell')=true):=by rw[HX.o];exact nw _
 obtain⟨h,g⟩:=zA (encF tA);have U:Hid (∀w,(zeroValue 95).run prog w=.ok (.agg h) w):=by rw[g.o];exact forZ
 have af:Hid (prog.built 95 []=some h):=by rw[g.o];exact forB
 have l:Hid (h.size=192):=by rw[g.o];exact uh _
 have H:Hid (h.all (·.oneCell')=true):=by rw[g.o];exact nw _
 have F:Hid (∀(k:Nat) (W:World),k<4->Calls prog 100 #[.agg A,k] W fun e w'=>e=.returned (.bool (vN f k))/\Below W W w'):=fun k W hk=>by rw[HA.o];exact jy f k W hk
 go_enter func118,ntmps118
 go_wp2_with (first
  | (refine om rfl 95 rfl h U.o ?_)
  | (refine yQ rfl 95 (.tmp 1) rfl w rfl 95 A (0,0) _ (vG w _ _) forT rfl (by rw[z.o];exact forI) ?_))
 refine (F.o 0 _ (by omega)).mono ?_;cases I:vN f 0 with
 | false=>
  rintro e C ⟨rfl,b⟩;have s:Hid (C.heap[w.heap.size+1]?=some (.cells h 95)):=we b (vg w _ _);have x:Below w w C:=Below.step ((zB.alloc zL _).alloc (by simp) _) b;have d:sU f=(tA,0,4):=by unfold sU;rw[zb (by rw[I];simp)]
  have T:X=h:=by rw[HX.o,d,g.o]
  have G:n=0:=by rw[Hn.o,d]
  have D:c=4:=by rw[Hc.o,d]
  clear I d b;subst T G D;have hz:=U.o;go_wp2_with (first
   | (refine yD rfl 95 (.tmp 2) (.tmp 9) rfl (w.heap.size+1) X rfl rfl 95 X s.o (by rw[l.o];exact forI) rfl H.o ?_))
  refine yS (K0 rfl _ _ (w.heap.size+1) 95 X (0,0) _ (.int .i64 0) (.int .i64 4) rfl rfl rfl (yi _ _ _ _ _ _ s.o) forT rfl (by rw[l.o];exact forI)) rfl ⟨rfl,?_⟩;exact Below.setRow x (by omega) _
 | true=>
  rintro e C ⟨rfl,b⟩;have V:Hid (C.heap[w.heap.size]?=some (.cells A 95)):=we b (vG w _ _);have s:Hid (C.heap[w.heap.size+1]?=some (.cells h 95)):=we b (vg w _ _);have x:Below w w C:=Below.step ((zB.alloc zL _).alloc (by simp) _) b;have H0:=Lib.hid I;clear I b;go_wp2;go_loopw [5] (fun i wr=>∃k:Nat,1<=k/\k<=4/\i=.int .i64 k/\Hid (∀j,1<=j->j<k->vN f j=true)/\Hid (wr.heap[w.heap.size]?=some (.cells A 95))/\Hid (wr.heap[w.heap.size+1]?=some (.cells h 95))/\Below w w wr) (fun i _=>4-(intOf i).toNat);case atStart=>exact⟨1,by omega,by omega,rfl,fun j h1 h2=>by omega,V,s,x⟩
  case round=>
   obtain⟨k,K,hk,rfl,Q,L,J,N⟩:=hrel;by_cases u:k<4
   .have ae:(k:Int)<4:=(by omega);have ah:(0:Int)<=(k:Int):=(by omega);go_wp2_with (refine yQ rfl 95 (.tmp 1) rfl w rfl 95 A (0,0) _ L.o forT rfl (by rw[z.o];exact forI) ?_)
    refine (F.o k _ u).mono ?_;cases q:vN f k with
    | true=>
     rintro e Y ⟨rfl,a⟩;have m:=Lib.hid (we a L.o);have y:=Lib.hid (we a J.o);have B:=Below.step N a;have O:Hid (∀j,1<=j->j<k+1->vN f j=true):=fun j h1 h2=>by
      by_cases e:j=k
      .rw[e];exact q
      .exact Q.o j h1 (by omega)
     clear q a;go_wp2;go_roundw;case rel=>exact⟨k+1,by omega,by omega,by go_num,O,m,y,B⟩
     case measure=>simp[intOf];omega
    | false=>
     rintro e Y ⟨rfl,a⟩;have m:=Lib.hid (we a L.o);have y:=Lib.hid (we a J.o);have B:=Below.step N a;have d:sU f=(putT f k,k,0):=(by unfold sU;rw[ze H0.o,OP K u Q.o q]);have S:Hid (X=encF (putT f k)):=(by rw[HX.o,d];exact rfl);have G:n=k:=(by rw[Hn.o,d]);have D:c=0:=(by rw[Hc.o,d]);obtain⟨t,r⟩:=zA (encT f 0);have v:Hid (t.size=48):=(by rw[r.o];exact oV _ _);have R:Hid (t.all (·.oneCell')=true):=(by rw[r.o];exact Vw _ _);have aa:Hid (∀j,j<t.size->A[0+j]?=t[j]?):=(by have:=VE f 0 (by omega);rw[um,<-r.o,<-HA.o]at this;exact this);have M:Hid ((A.toList.take (k*48)++t.toList++A.toList.drop (k*48+t.size)).toArray=X):=(by rw[HA.o,r.o,S.o];exact SD f k u);have P:Hid ((Y.setRow w X).heap[w.heap.size]?=some (.cells X 95)):=yi _ _ _ _ _ _ m.o;have E:Hid ((Y.setRow w X).heap[w.heap.size+1]?=some (.cells h 95)):=jF y.o _ _ (by omega);clear q a d;subst G D;go_wp2_with (first
      | (refine pR (by kernel_rfl) 93 (.tmp 19) rfl w 0 rfl 95 A t (0,0) _ m.o aa.o vF rfl (by rw[v.o];exact qR) ?_)
      | (refine jr rfl 93 (.tmp 21) (.tmp 20) rfl w (n*48) t rfl rfl 95 A X m.o (by rw[v.o];exact qR) (by rw[v.o,z.o];omega) R.o M.o ?_)
      | (refine yQ rfl 95 (.tmp 1) rfl w rfl 95 X (0,0) _ P.o forT rfl (by rw[p.o];exact forI) ?_)
      | (refine yD rfl 95 (.tmp 2) (.tmp 22) rfl (w.heap.size+1) X rfl rfl 95 h E.o (by rw[p.o];exact forI) (by rw[l.o,p.o]) Z.o ?_))
     refine yS (K0 rfl _ _ (w.heap.size+1) 95 X (0,0) _ (.int .i64 (n:Int)) (.int .i64 0) rfl rfl rfl (yi _ _ _ _ _ _ E.o) forT rfl (by rw[p.o];exact forI)) rfl ⟨rfl,?_⟩;exact Below.setRow (Below.setRow B zL _) (by omega) _
   .obtain rfl:k=4:=(by omega);have d:sU f=(tA,0,6):=(by unfold sU;rw[ze H0.o,OQ Q.o]);have T:X=h:=(by rw[HX.o,d,g.o]);have G:n=0:=(by rw[Hn.o,d]);have D:c=6:=(by rw[Hc.o,d]);clear d;subst T G D;have hz:=U.o;go_wp2_with (first
     | (refine yD rfl 95 (.tmp 2) (.tmp 24) rfl (w.heap.size+1) X rfl rfl 95 X J.o (by rw[l.o];exact forI) rfl H.o ?_))
    refine yS (K0 rfl _ _ (w.heap.size+1) 95 X (0,0) _ (.int .i64 0) (.int .i64 6) rfl rfl rfl (yi _ _ _ _ _ _ J.o) forT rfl (by rw[l.o];exact forI)) rfl ⟨rfl,?_⟩;exact Below.setRow N (by omega) _
def nf (x:Int):Bool:=decide (x<0)||decide (256<=x)
def badN (f:Fo) (k:Nat):Bool:=(List.range 16).any fun i=>nf (f.nd k i)
def n9 (f:Fo) (k:Nat):Bool:=rc (encT f k) (encT tA 0) 0 48
def badT (f:Fo) (k:Nat):Bool:= !vN f k&&!n9 f k
def rV (f:Fo):Int:=if badN f 0=true then 1 else if badT f 0=true then 3 else if badN f 1=true then 1 else if badT f 1=true then 3 else if badN f 2=true then 1 else if badT f 2=true then 3 else if badN f 3=true then 1 else if badT f 3=true then 3 else 0
def na (f:Fo) (k:Nat):Prop:=badN f k=false/\badT f k=false
theorem Is {f:Fo} (e:k<4) (d:∀j,j<k->na f j) (h:badN f k=true):rV f=1:=by
 unfold rV
 match k,e with
 | 0,_=>rw[ze h]
 | 1,_=>
  have a:=d 0 (by omega);rw[a.1,a.2,zb (by simp),zb (by simp),ze h]
 | 2,_=>
  have a:=d 0 (by omega);have b:=d 1 (by omega);rw[a.1,a.2,b.1,b.2,zb (by simp),zb (by simp),zb (by simp),zb (by simp),ze h]
 | 3,_=>
  have a:=d 0 (by omega);have b:=d 1 (by omega);have c:=d 2 (by omega);rw[a.1,a.2,b.1,b.2,c.1,c.2,zb (by simp),zb (by simp),zb (by simp),zb (by simp),zb (by simp),zb (by simp),ze h]
theorem Mo {f:Fo} (g:k<4) (d:∀j,j<k->na f j) (e:badN f k=false) (h:badT f k=true):rV f=3:=by
 unfold rV
 match k,g with
 | 0,_=>rw[e,zb (by simp),ze h]
 | 1,_=>
  have a:=d 0 (by omega);rw[a.1,a.2,e,zb (by simp),zb (by simp),zb (by simp),ze h]
 | 2,_=>
  have a:=d 0 (by omega);have b:=d 1 (by omega);rw[a.1,a.2,b.1,b.2,e,zb (by simp),zb (by simp),zb (by simp),zb (by simp),zb (by simp),ze h]
 | 3,_=>
  have a:=d 0 (by omega);have b:=d 1 (by omega);have c:=d 2 (by omega);rw[a.1,a.2,b.1,b.2,c.1,c.2,e,zb (by simp),zb (by simp),zb (by simp),zb (by simp),zb (by simp),zb (by simp),zb (by simp),ze h]
theorem JX {f:Fo} (e:∀j,j<4->na f j):rV f=0:=by unfold rV;have a:=e 0 (by omega);have b:=e 1 (by omega);have c:=e 2 (by omega);have d:=e 3 (by omega);rw[a.1,a.2,b.1,b.2,c.1,c.2,d.1,d.2,zb (by simp),zb (by simp),zb (by simp),zb (by simp),zb (by simp),zb (by simp),zb (by simp),zb (by simp)]
theorem iV {f:Fo} {i:Nat} (a:i<16) (h:nf (f.nd k i)=true):badN f k=true:=by unfold badN;rw[xX];exact⟨i,yT.2 a,h⟩
theorem LV {f:Fo} (h:∀i,i<16->nf (f.nd k i)=false):badN f k=false:=by
 cases a:badN f k with
 | false=>rfl
 | true=>
  unfold badN at a;rw[xX]at a;obtain⟨i,b,a⟩:=a;rw[h i (yT.1 b)]at a;cases a
theorem Ha (f g:Fo) (k j:Nat):mF (encT f k) (encT g j) 0 48:=fun i a=>by
 rw[yL,fq f k i a,fq g j i a];unfold uO;by_cases h:i<16
 .rw[ze h,ze h];exact⟨_,_,_,rfl,rfl⟩
 .rw[zb h,zb h];exact⟨_,_,_,rfl,rfl⟩
theorem intS: (prog.info? 3).map (·.size)=some 1:=by kernel_rfl
theorem intT: prog.underlying 3=some (.int .i64):=by kernel_rfl
theorem lj: prog.underlying 89=some (.array 16 3):=by kernel_rfl
theorem Tr: jm prog 9999 89 (16*1):=II (d:=9998) lj intS (by kernel_rfl) (KP (d:=9997) intT)
theorem eqSets: jm prog 9999 91 (32*1):=II (d:=9998) setT byteI (by kernel_rfl) (KP (d:=9997) byteT)
theorem M9 (f g:Fo) (k j:Nat) (w:World):(Op.equalIn 10000 93 (.agg (encT f k)) (.agg (encT g j))).run prog w=.ok (rc (encT f k) (encT g j) 0 48) w:=
 Hu (d:=9999) vF (by kernel_rfl) (by decide) (by decide) rfl rfl Tr eqSets _ _ w (Ha f g k j)
theorem treeZ: ∀w,(zeroValue 93).run prog w=.ok (.agg (encT tA 0)) w:=(uW (P:=prog) (t:=93) (v:=.agg (encT tA 0)) (n:=48) (by kernel_rfl)).1
theorem QW (
 f:Fo) (A:Array Value) (c:Int) (HA:Hid (A=encF f)) (Hc:Hid (c=rV f)) (w:World):
 Calls prog 133 #[.agg A] w fun e w'=>e=.returned c/\Below w w w':=by
 have L:Hid (A.size=192):=by rw[HA.o];exact uh f
 obtain⟨Q,C⟩:=zA (encT tA 0);have HZ:Hid (∀w,(zeroValue 93).run prog w=.ok (.agg Q) w):=by rw[C.o];exact treeZ
 have K:Hid (∀(k:Nat) (W:World),k<4->Calls prog 100 #[.agg A,k] W fun e w'=>e=.returned (.bool (vN f k))/\Below W W w'):=fun k W U=>by rw[HA.o];exact jy f k W U
 go_enter func133,ntmps133
 go_wp2;go_loopw [6] (fun i wr=>∃k:Nat,k<=4/\i=.int .i64 k/\Hid (∀j,j<k->na f j)/\Hid (wr.heap[w.heap.size]?=some (.cells A 95))/\Below w w wr) (fun i _=>4-(intOf i).toNat);case atStart=>exact⟨0,by omega,rfl,fun j h=>by omega,zH,zB.alloc zL _⟩
 case round=>
  obtain⟨k,U,rfl,u,F,B⟩:=hrel;by_cases d:k<4
  .have V:(k:Int)<4:=(by omega);have aa:(0:Int)<=(k:Int):=(by omega);obtain⟨v,s⟩:=zA (encN f k);have H:Hid (v.size=16):=(by rw[s.o];exact VJ _ _);have M:Hid (∀j,j<v.size->A[k*48+j]?=v[j]?):=(by rw[s.o,HA.o];exact Ky f k d);obtain⟨S,G⟩:∃S:World,S=wr:=⟨_,rfl⟩;subst G;go_wp2_with (refine pR (by kernel_rfl) 89 (.tmp 11) rfl w (k*48) rfl 95 A v (0,0) _ F.o M.o lj rfl (by rw[H.o];exact m9) ?_)
   go_loop [13] (fun i=>∃j:Nat,j<=16/\i=.int .i64 j/\Hid (∀a,a<j->nf (f.nd k a)=false)) (fun i=>16-(intOf i).toNat)
   case atStart=>exact⟨0,by omega,rfl,fun a h=>by omega⟩
   case round=>
    obtain⟨j,hj,rfl,P⟩:=hrel;by_cases n:j<16
    .have Y:(j:Int)<16:=(by omega);obtain⟨x,E⟩:=zA (f.nd k j);have R:∀W:World,(Instr.index 89 (.agg v) (.int .i64 (j:Int))).run prog W=.ok (.int .i64 x) W:=fun W=>
      W9 _ _ 16 .i64 v .i64 (j:Int) lj intT intS (by omega) (by omega) _ (by rw[yy,s.o,Vy f k j n,E.o];unfold uO;rw[ze n]) W
     by_cases O:x<0
     .have t:Hid (c=1):=(by rw[Hc.o];exact Is d u.o (iV n (by rw[<-E.o];simp[nf,O])));go_wp2;go_ret;rw[t.o];exact⟨rfl,B⟩
     .by_cases X:256<=x
      .have t:Hid (c=1):=(by rw[Hc.o];exact Is d u.o (iV n (by rw[<-E.o];simp[nf,X])));go_wp2;go_ret;rw[t.o];exact⟨rfl,B⟩
      .have J:Hid (∀a,a<j+1->nf (f.nd k a)=false):=fun a ha=>by
        by_cases e:a=j
        .rw[e,<-E.o];simp[nf,O,X]
        .exact P.o a (by omega)
       go_wp2
       go_round
       case rel=>exact⟨j+1,by omega,by go_num,J⟩
       case measure=>simp[intOf];omega
    .obtain rfl:j=16:=(by omega);have r:Hid (badN f k=false):=LV P.o;obtain⟨T,N⟩:=zA (encT f k);have y:Hid (T.size=48):=(by rw[N.o];exact oV _ _);have D:Hid (∀j,j<T.size->A[k*48+j]?=T[j]?):=(by rw[N.o,HA.o];exact VE f k d);have I:Hid (∀W:World,(Op.equalIn 10000 93 (.agg T) (.agg Q)).run prog W=.ok (n9 f k) W):=fun W=>(by rw[N.o,C.o];exact M9 f tA k 0 W);go_wp2_with (refine yQ rfl 95 (.tmp 1) rfl w rfl 95 A (0,0) _ F.o forT rfl (by rw[L.o];exact forI) ?_)
     refine (K.o k _ d).mono ?_;cases g:vN f k with
     | true=>
      rintro e w2 ⟨rfl,b⟩;have m:=Lib.hid (we b F.o);have p:=Below.step B b;have q:Hid (∀j,j<k+1->na f j):=fun j Z=>by
       by_cases e:j=k
       .rw[e];exact⟨r.o,by unfold badT;rw[g];rfl⟩
       .exact u.o j (by omega)
      clear g b;go_wp2;go_roundw;case rel=>exact⟨k+1,by omega,by go_num,q,m,p⟩
      case measure=>simp[intOf];omega
     | false=>
      rintro e w2 ⟨rfl,b⟩;have m:=Lib.hid (we b F.o);have p:=Below.step B b;have hz:=HZ.o;have z:=I.o;cases l:n9 f k with
      | true=>
       rw[l]at z;have q:Hid (∀j,j<k+1->na f j):=fun j Z=>by
        by_cases e:j=k
        .rw[e];exact⟨r.o,by unfold badT;rw[g,l];rfl⟩
        .exact u.o j (by omega)
       clear g b l;go_wp2_with (refine pR (by kernel_rfl) 93 (.tmp 29) rfl w (k*48) rfl 95 A T (0,0) _ m.o D.o vF rfl (by rw[y.o];exact qR) ?_)
       go_roundw;case rel=>exact⟨k+1,by omega,by go_num,q,m,p⟩
       case measure=>simp[intOf];omega
      | false=>
       rw[l]at z;have t:Hid (c=3):=(by rw[Hc.o];exact Mo d u.o r.o (by unfold badT;rw[g,l];rfl));clear g b l;go_wp2_with (refine pR (by kernel_rfl) 93 (.tmp 29) rfl w (k*48) rfl 95 A T (0,0) _ m.o D.o vF rfl (by rw[y.o];exact qR) ?_)
       go_ret;rw[t.o];exact⟨rfl,p⟩
  .obtain rfl:k=4:=(by omega);have t:Hid (c=0):=(by rw[Hc.o];exact JX u.o);go_wp2;go_ret;rw[t.o];exact⟨rfl,B⟩
theorem Ji (f:Fo) (w:World):
 Calls prog 133 #[.agg (encF f)] w fun e w'=>e=.returned (.int .i64 (rV f))/\Below w w w':=QW f _ _ rfl rfl w
def Ln (f:Fo):List Int:=(List.range 64).map fun m=>f.nd (m / 16) (m%16)
def Ls (f:Fo):List Int:=(List.range 128).map fun m=>(tD (f.hs (m / 32)) (m%32):Int)
def uC (f:Fo):List Int:=Ln f++Ls f
theorem ld (f:Fo):(Ln f).length=64:=by simp[Ln]
theorem ix (f:Fo):(Ls f).length=128:=by simp[Ls]
theorem fj (f:Fo):(uC f).length=192:=by simp[uC,ld,ix]
theorem ZT (f:Fo) (k i:Nat) (a:k<4) (b:i<16):(Ln f)[k*16+i]?=some (f.nd k i):=by unfold Ln;rw[xy,vo (by omega)];simp only[rT];rw[show (k*16+i) / 16=k by omega,show (k*16+i)%16=i by omega]
theorem ZS (f:Fo) (k i:Nat) (a:k<4) (b:i<32):(Ls f)[k*32+i]?=some (tD (f.hs k) i:Int):=by unfold Ls;rw[xy,vo (by omega)];simp only[rT];rw[show (k*32+i) / 32=k by omega,show (k*32+i)%32=i by omega]
theorem hY {α:Type} (l:List α) (n:Nat) (x:α) (h:l[n]?=some x):l.take (n+1)=l.take n++[x]:=by obtain⟨a,rfl⟩:=zy.1 h;rw[zY a]
def setL (f:Fo) (k:Nat):List Int:=(List.range 32).map fun i=>(tD (f.hs k) i:Int)
theorem TG (f:Fo) (k:Nat) (d:k<4):(Ls f).take ((k+1)*32)=(Ls f).take (k*32)++setL f k:=by
 apply xS;intro i;have b:((Ls f).take (k*32)).length=k*32:=by rw[zi,ix];omega
 by_cases c:i<k*32
 .rw[zO (by omega),zI,zI,ze c,ze (by omega)]
 .rw[zx (by omega),b,zI];by_cases a:i<(k+1)*32
  .rw[ze a];obtain⟨j,rfl⟩:∃j,i=k*32+j:=⟨i-k*32,by omega⟩;rw[ZS f k j d (by omega),show k*32+j-k*32=j by omega];unfold setL;rw[xy,vo (by omega)];rfl
  .rw[zb a,yd (by simp[setL];omega)]
theorem YN (f:Fo) (k:Nat):(setL f k).length=32:=by simp[setL]
theorem Mm {f:Fo} (h:rV f=0) (k i:Nat) (n:k<4) (o:i<16):0<=f.nd k i/\f.nd k i<=255:=by
 have b:badN f k=false:=by
  cases a:badN f k with
  | false=>rfl
  | true=>
   exfalso;unfold rV at h;by_cases e:badN f 0=true
   .rw[ze e]at h;cases h
   rw[zb e]at h;by_cases m:badT f 0=true
   .rw[ze m]at h;cases h
   rw[zb m]at h;by_cases d:badN f 1=true
   .rw[ze d]at h;cases h
   rw[zb d]at h;by_cases j:badT f 1=true
   .rw[ze j]at h;cases h
   rw[zb j]at h;by_cases c:badN f 2=true
   .rw[ze c]at h;cases h
   rw[zb c]at h;by_cases g:badT f 2=true
   .rw[ze g]at h;cases h
   rw[zb g]at h;by_cases l:badN f 3=true
   .rw[ze l]at h;cases h
   match k,n with
   | 0,_=>exact e a
   | 1,_=>exact d a
   | 2,_=>exact c a
   | 3,_=>exact l a
 have:nf (f.nd k i)=false:=by
  cases a:nf (f.nd k i) with
  | false=>rfl
  | true=>rw[iV o a]at b;cases b
 simp[nf]at this;omega
theorem TY: (prog.info? 5).map (fun i=>(i.zero,i.size,i.bytes))=some (some (.int .u8 0),1,1):=by kernel_rfl
theorem ie: prog.underlying 23=some (.slice 5):=by kernel_rfl
theorem Pg (f:Fo) (A:Array Value) (c:Int) (i:Hid (A=encF f)) (j:Hid (c=rV f)) (k:(c != 0)=true) (w:World):
 Calls prog 90 #[.agg A] w fun e w'=>e=.returned (.tuple #[.slice none 0 0,c])/\Below w w w':=by
 have d:Hid (A.size=192):=by rw[i.o];exact uh f
 have b:Hid (∀W:World,Calls prog 133 #[.agg A] W fun e w'=>e=.returned c/\Below W W w'):=fun W=>by rw[i.o,j.o];exact Ji f W
 go_enter func90,ntmps90
 go_wp2_with (refine yQ rfl 95 (.tmp 1) rfl w rfl 95 A (0,0) _ (zT w _) forT rfl (by rw[d.o];exact forI) ?_)
 refine (b.o _).mono ?_;rintro e h ⟨rfl,a⟩;have g:Below w w h:=Below.step (zB.alloc zL _) a;clear a;go_wp2;go_ret2;exact⟨rfl,g⟩
def WL (f:Fo) (w:World) (e:Ending) (w':World):Prop:=
 ∃v,e=.returned (.tuple #[v,()])/\w'.ownsRow (w.heap.size+1) 5 1 v 192 (u8s (uC f))/\Below w w w'
theorem Pf (
 f:Fo) (A:Array Value) (HA:Hid (A=encF f)) (hr:rV f=0) (w:World):
 Calls prog 90 #[.agg A] w (WL f w):=by
 have ak:Hid (A.size=192):=by rw[HA.o];exact uh f
 have U:=Lib.hid (fun k i Z S=>Mm hr k i Z S);have ac:Hid (∀W:World,Calls prog 133 #[.agg A] W fun e w'=>e=.returned ()/\Below W W w'):=fun W=>by rw[HA.o,<-hr];exact Ji f W
 obtain⟨i0,S,H,O,J⟩:=xp TY;have HI:=Lib.hid S;have P:=Lib.hid H;have R:=Lib.hid O;have I:=Lib.hid J;clear S H O J hr;go_enter func90,ntmps90;go_wp2_with (refine yQ rfl 95 (.tmp 1) rfl w rfl 95 A (0,0) _ (zT w _) forT rfl (by rw[ak.o];exact forI) ?_)
 refine (ac.o _).mono ?_;rintro e w1 ⟨rfl,D⟩;have T:Below w w w1:=Below.step (zB.alloc zL _) D;have X:Hid (w1.heap[w.heap.size]?=some (.cells A 95)):=we D (zT w _);clear D;go_wp2;go_loopw [5,15] (fun v i wr=>∃k:Nat,k<=4/\i=.int .i64 k/\Hid (wr.ownsRow (w.heap.size+1) 5 1 v (k*16) (u8s ((Ln f).take (k*16))))/\Hid (wr.heap[w.heap.size]?=some (.cells A 95))/\Below w w wr) (fun _ i _=>4-(intOf i).toNat);case atStart=>exact⟨0,by omega,rfl,yW _ _ _ _,X,T⟩
 case round=>
  obtain⟨k,Z,rfl,HO,Y,HB⟩:=hrel;by_cases h:k<4
  .have Q:(k:Int)<4:=(by omega);have aa:(0:Int)<=(k:Int):=(by omega);obtain⟨E,B⟩:=zA (encN f k);have ai:Hid (E.size=16):=(by rw[B.o];exact VJ _ _);have ae:Hid (∀j,j<E.size->A[k*48+j]?=E[j]?):=(by rw[B.o,HA.o];exact Ky f k h);obtain⟨N,C⟩:∃N:World,N=wr:=⟨_,rfl⟩;subst C;obtain⟨F,t⟩:∃F:Value,F=u5:=⟨_,rfl⟩;subst t;go_wp2_with (refine pR (by kernel_rfl) 89 (.tmp 20) rfl w (k*48) rfl 95 A E (0,0) _ Y.o ae.o lj rfl (by rw[ai.o];exact m9) ?_)
   go_loopw [5,22] (fun v i wr=>∃j:Nat,j<=16/\i=.int .i64 j/\Hid (wr.ownsRow (w.heap.size+1) 5 1 v (k*16+j) (u8s ((Ln f).take (k*16+j))))/\Hid (wr.heap[w.heap.size]?=some (.cells A 95))/\Below w w wr) (fun _ i _=>16-(intOf i).toNat)
   case atStart=>exact⟨0,by omega,rfl,HO,Y,HB⟩
   case round=>
    obtain⟨j,G,rfl,c,g,l⟩:=hrel;by_cases m:j<16
    .have an:(j:Int)<16:=(by omega);obtain⟨x,Hx⟩:=zA (f.nd k j);have hx:=U.o k j h m;rw[<-Hx.o]at hx;obtain⟨ax,az⟩:=hx;have au:∀W:World,(Instr.index 89 (.agg E) (.int .i64 (j:Int))).run prog W=.ok (.int .i64 x) W:=fun W=>
      W9 _ _ 16 .i64 E .i64 (j:Int) lj intT intS (by omega) (by omega) _ (by rw[yy,B.o,Vy f k j m,Hx.o];unfold uO;rw[ze m]) W
     have V:w.heap.size<wr.heap.size:=xL g.o;obtain⟨q,cq,hv,_⟩:=tR c.o;subst hv;have b:=(c.o.alloc (.cells #[.int .u8 x] 5)).lt;go_wp2_with (at_builtin;refine yH _ rfl _ _ 23 rfl (w.heap.size+1) 5 i0 (.int .u8 0) 1 1 ie HI.o P.o R.o I.o rfl (by decide) _ _ _ rfl (c.o.alloc _) ⟨wr.heap.size,0,none⟩ 1 1 [.int .u8 x] rfl rfl (fun j u y=>Zn _ #[.int .u8 x] _ j u y) (fun u y=>by simp at y;subst y;rfl) (by unfold maxLen;omega) (by omega) (by simp;omega) ?_;intro v' p d a _)
     have n:Hid (p.ownsRow (w.heap.size+1) 5 1 v' (k*16+(j+1)) (u8s ((Ln f).take (k*16+(j+1))))):=(by rw[<-yA,hY (Ln f) (k*16+j) x (by rw[Hx.o];exact ZT f k j h m),qh];exact d);have s:Hid (p.heap[w.heap.size]?=some (.cells A 95)):=(a.block w (by simp;omega) (fun e=>by have:=(b w e.symm).1;omega)).trans (tf g.o _);have z:Below w w p:=xC (l.alloc l.size _) a (by simp;omega) (fun r hr=>by have:=(b r hr).1;omega);clear d a b;go_wp2;go_roundw;case rel=>exact⟨j+1,by omega,by go_num,n,s,z⟩
     case measure=>simp[intOf];omega
    .obtain rfl:j=16:=(by omega);go_wp2;go_roundw;case rel=>exact⟨k+1,by omega,by go_num,by rw[show (k+1)*16=k*16+16 by omega];exact c,g,l⟩
     case measure=>simp[intOf];omega
  .have aj:Hid (k=4):=(by show _=_;omega);have ap:¬(k:Int)<4:=(by omega);obtain⟨k0,M⟩:∃k0:Nat,k0=k:=⟨_,rfl⟩;subst M;have ab:Hid (wr.ownsRow (w.heap.size+1) 5 1 u5 (64+0*32) (u8s (Ln f++(Ls f).take (0*32)))):=(by have:=HO.o;rw[aj.o]at this;rw[zv (by rw[ld];omega)]at this;rw[um,xE,xn];exact this);clear HO;obtain⟨F,t⟩:∃F:Value,F=u5:=⟨_,rfl⟩;subst t;obtain⟨N,C⟩:∃N:World,N=wr:=⟨_,rfl⟩;subst C;go_wp2;go_loopw [5,32] (fun v i wr=>∃k:Nat,k<=4/\i=.int .i64 k/\Hid (wr.ownsRow (w.heap.size+1) 5 1 v (64+k*32) (u8s (Ln f++(Ls f).take (k*32))))/\Hid (wr.heap[w.heap.size]?=some (.cells A 95))/\Below w w wr) (fun _ i _=>4-(intOf i).toNat);case atStart=>exact⟨0,by omega,rfl,ab,Y,HB⟩
   case round=>
    obtain⟨k,Z,rfl,c,g,l⟩:=hrel;by_cases h:k<4
    .have Q:(k:Int)<4:=(by omega);have aa:(0:Int)<=(k:Int):=(by omega);have V:w.heap.size<wr.heap.size:=xL g.o;have al:Hid (∀(j:Nat) (u:Value),(u8s (setL f k))[j]?=some u->wr.cell? ((⟨w.heap.size,k*48+16,none⟩:Addr).add j)=some u):=fun j u y=>(by have G:=(zy.1 y).1;rw[vO,YN]at G;have K:(⟨w.heap.size,k*48+16,none⟩:Addr).add j=⟨w.heap.size,k*48+16+j,none⟩:=(by unfold Addr.add;split<;>simp_all);rw[K,zC g.o,HA.o,WB f k h j (by rw[tF];exact G),pQ _ _ G,<-y];unfold u8s setL;rw[xy,xy,vo G];rfl);obtain⟨q,cq,hv,_⟩:=tR c.o;subst hv;have b:=c.o.lt;go_wp2_with (at_builtin;refine yH _ rfl _ _ 23 rfl (w.heap.size+1) 5 i0 (.int .u8 0) 1 1 ie HI.o P.o R.o I.o rfl (by decide) _ _ _ rfl c.o ⟨w.heap.size,k*48+16,none⟩ 32 32 (u8s (setL f k)) rfl (by rw[vO,YN]) al.o (oR _) (by unfold maxLen;omega) (by omega) (by omega) ?_;intro v' p d a _)
     have n:Hid (p.ownsRow (w.heap.size+1) 5 1 v' (64+(k+1)*32) (u8s (Ln f++(Ls f).take ((k+1)*32)))):=(by rw[TG f k h,<-zU,qh,show 64+(k+1)*32=64+k*32+32 by omega];exact d);have s:Hid (p.heap[w.heap.size]?=some (.cells A 95)):=(a.block w (by omega) (fun e=>by have:=(b w e.symm).1;omega)).trans g.o;have z:Below w w p:=xC l a (by omega) (fun r hr=>by have:=(b r hr).1;omega);clear d a b;go_wp2;go_roundw;case rel=>exact⟨k+1,by omega,by go_num,n,s,z⟩
     case measure=>simp[intOf];omega
    .obtain rfl:k=4:=(by omega);have L:Hid (wr.ownsRow (w.heap.size+1) 5 1 u5 192 (u8s (uC f))):=(by have:=c.o;rw[zv (by rw[ix];omega)]at this;exact this);clear c;go_wp2;go_ret2;exact⟨_,rfl,L.o,l⟩
theorem Kz (f:Fo) (a:rV f=0) (w:World):Calls prog 90 #[.agg (encF f)] w (WL f w):=Pf f _ rfl a w
def f1 : Fo:=⟨fun k j=>if k=0/\j=0 then 40 else 0,fun _=>emp⟩
def f2 : Fo:=⟨fun k j=>if k=0/\j=0 then 40 else 0,fun k=>if k=0 then ins (ins emp 40) 50 else emp⟩
section
variable {P : Program}
theorem V9 (w:World) (r u x f:TypeId) (k:Nat) (g o h m:Nat) (a:Addr) (l n:Nat) (cur:Array Value) (t:TypeId) (cs:List Value)
 (y:P.underlying r=some (.slice f)) (s:(P.info? f).map (·.size)=some k)
 (z:w.heap[g]?=some (.cells cur t)) (A:cs.length=Nat.min l h*k)
 (p:∀j v,cs[j]?=some v->w.cell? (a.add j)=some v) (q:o+cs.length<=cur.size) (B:∀v∈cs,v.oneCell'=true):
 (Builtin.copy_ #[r,u] x #[(g,o,h,m),.slice (some a) l n]).run P w =
  .ok (goInt (Nat.min l h)) (w.setRow g (cur.toList.take o++cs++cur.toList.drop (o+cs.length)).toArray):=by
 have d:=si (P:=P) w a cs p;have b:=vE P g o t cs 0 cur w z (by simpa using q) B;cases c:P.info? f with
 | none=>simp[c]at s
 | some i=>
  have e:i.size=k:=by simpa[c]using s
  rw[A]at d;simp only[vA]at b;simp[Builtin.copy_,wy y,Builtin.lenOf,Builtin.firstCells,sizeOf,typeInfo,c,e,d,b]
end
theorem rowT: prog.underlying 96=some (.slice 176):=by kernel_rfl
theorem kU: (prog.info? 176).map (fun i=>(i.zero,i.size,i.bytes))=some (some (.agg #[(),()]),2,16):=by kernel_rfl
theorem rowS: (prog.info? 176).map (·.size)=some 2:=by kernel_rfl
theorem fA (l:List (Int×Int)):∀v∈wT l,v.oneCell'=true:=by intro v a;unfold wT at a;rw[wU]at a;obtain⟨x,_,b⟩:=a;simp at b;rcases b with rfl|rfl<;>rfl
def nn (B:Nat) (l:List (Int×Int)) (w:World) (e:Ending) (w':World):Prop:=
 ∃v,e=.returned v/\w'.ownsRow B 176 2 v l.length (wT l)/\Below B w w'/\w.heap.size<=w'.heap.size
theorem LD (v:Value) (l:List (Int×Int)) (w:World) (h:xT w v 2 l.length (wT l)) (T:l.length<=1000000):
 Calls prog 153 #[v] w (nn w l w):=by
 obtain⟨O,H,m,p,q⟩:=xp kU;have Q:=Lib.hid H;have C:=Lib.hid m;have D:=Lib.hid p;have A:=Lib.hid q;clear H m p q;obtain⟨n,e⟩:=zA l.length;obtain⟨a,c,P,B⟩:∃a c,v=.slice a n c/\Hid (∀d,a=some d->∀j u,(wT l)[j]?=some u->w.cell? (d.add j)=some u)/\(a=none->n=0):=by
  obtain⟨S,⟨I,a,c,rfl⟩|⟨g,o,c,rfl,R⟩⟩:=h
  .refine⟨a,c,by rw[e.o,I],fun d _ j u x=>?_,fun _=>by rw[e.o];exact I⟩;have:=(zy.1 x).1;omega
  .refine⟨_,c,by rw[e.o],fun d J j u x=>?_,fun h=>by cases h⟩;cases J;have s:(⟨g,o,none⟩:Addr).add j=⟨g,o+j,none⟩:=(by unfold Addr.add;split<;>simp_all);rw[s];exact R j u x
 obtain⟨B,F⟩:=B;subst P;have i:(wT l).length=n*2:=by rw[rC,<-e.o]
 have t:=Lib.hid i;rw[<-e.o]at T;clear i h;unfold nn;rw[<-e.o];have N:∀(w:World) (a:Option Addr) (n c y z:Nat),(binOp .eql 96 (a,n,c) (.slice none y z)).run prog w=.ok (.bool a.isNone) w:=fun w a n c y z=>Lib.run_eql_slice_nil w _ _ a n c y z rowT;cases a with
 | none=>
  have E:=Lib.hid (F rfl);clear F;go_enter func153,ntmps153;go_wp2;go_ret;exact⟨_,rfl,⟨t.o,zt ⟨rfl,E.o⟩⟩,zB,zL⟩
 | some d=>
  clear F;go_enter func153,ntmps153;go_wp2_with (at_builtin;refine yH _ rfl _ _ 96 rfl w.heap.size 176 O (.agg #[(),()]) 2 16 rowT Q.o C.o D.o A.o rfl (by decide) _ _ _ rfl (uQ w #[] 0 zL zZ rfl) d n c (wT l) rfl ?qc1 ?qc2 ?qc3 ?qc4 ?qc5 ?qc6 ?_)
  case qc1=>exact t.o
  case qc2 =>intro j u x;have:=B.o d rfl j u x;rw[wk _ _ _ (zG this)];exact this
  case qc3=>exact fA l
  case qc4=>unfold maxLen;omega
  case qc5=>omega
  case qc6=>simp
  intro L K f b r;have G:Below w w K:=((xW _ w).alloc zL _).grown b (by simp) (by intro k M;simp[Value.ownBlock]at M;omega);clear b r;go_wp2;go_ret;exact⟨L,rfl,f,G,G.size⟩
