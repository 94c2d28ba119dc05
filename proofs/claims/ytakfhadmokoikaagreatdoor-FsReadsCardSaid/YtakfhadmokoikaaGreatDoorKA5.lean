import Derived.Test.YtakfhadmokoikaaGreatDoorKA3
import Derived.Test.YtakfhadmokoikaaGreatDoorKA4
import Derived.Lib.TrimByte
import Derived.Lib.Bytealg
import Derived.Lib.IndexLaws
import Derived.Maps.RangeWalk
import Derived.Maps.OwnSet
import Derived.Maps.OwnOps
import Derived.Maps.Ext
import Derived.WalkSpells
set_option maxHeartbeats 0
set_option linter.all false
set_option maxRecDepth 100000
namespace Go.Proofs.YtakfhadmokoikaaGreatDoor
open Go.RowKit
variable {D:List Int} {S l m:List En} {a b:ByteArray} {at_ n q:Nat} {x:En}
theorem J9 : ∀x:List UInt8,Op.bytesLess x x=false
 | []=>rfl
 | a::x=>by have h:¬a<a:=UInt8.lt_irrefl a;simp[Op.bytesLess,h,J9 x]
theorem Jt : ∀x y z:List UInt8,Op.bytesLess x y=true->Op.bytesLess y z=true->Op.bytesLess x z=true
 | _,[],_,h,_=>by simp[Op.bytesLess]at h
 | _,_::_,[],_,h=>by simp[Op.bytesLess]at h
 | [],_::_,_::_,_,_=>by simp[Op.bytesLess]
 | a::x,b::y,c::z,e,d=>by
  simp only[Op.bytesLess,rU,xo,yM,vv]at *
  rcases e with e|⟨rfl,e⟩
  .rcases d with d|⟨rfl,d⟩
   .exact zt (UInt8.lt_trans e d)
   .exact zt e
  .rcases d with d|⟨rfl,d⟩
   .exact zt d
   .exact zu ⟨rfl,Jt x y z e d⟩
theorem Ju : ∀x y:List UInt8,Op.bytesLess x y=false->Op.bytesLess y x=false->x=y
 | [],[],_,_=>rfl
 | [],_::_,h,_=>by simp[Op.bytesLess]at h
 | _::_,[],_,h=>by simp[Op.bytesLess]at h
 | a::x,b::y,e,d=>by
  simp only[Op.bytesLess,uB,zJ,Bool.and_eq_false_iff,xf]at *
  have c:a=b:=by
   apply UInt8.le_antisymm
   .exact UInt8.not_lt.1 d.1
   .exact UInt8.not_lt.1 e.1
  subst c;rw[Ju x y (e.2.resolve_left (by simp)) (d.2.resolve_left (by simp))]
def lexB (a b:ByteArray):Bool:=Op.bytesLess a.toList b.toList
theorem kJ (h:a.toList=b.toList):a=b:=by rw[Lib.toList_data,Lib.toList_data]at h;cases a;cases b;simp only at h;rw[mR]at h;rw[h]
theorem Zv (a:ByteArray):lexB a a=false:=J9 _
theorem fB {c:ByteArray} (d:lexB a b=true) (e:lexB b c=true):lexB a c=true:=Jt _ _ _ d e
theorem Zp (c:lexB a b=false) (d:lexB b a=false):a=b:=kJ (Ju _ _ c d)
def cmpB (a b:ByteArray):Int:=if lexB a b then -1 else if a=b then 0 else 1
def ru (s:ByteArray):Bool:= !(s.toList==[])&&decide (s.size<=14)&&!(s.toList==[46])&&!(s.toList==[46,46])&&!(s.data.toList.contains 0)&&!(s.data.toList.contains 47)
def okE (x:En):Bool:=ru x.1&&decide (1<=x.2)&&decide (x.2<=32)
def rD (S:List En):List En->Int
 | []=>0
 | x::l=>if okE x=false then 3 else if S.any (fun y=>decide (y.1=x.1)) then 5 else rD (S++[x]) l
def tW (l:List En):Int:=if 32<l.length then 2 else rD [] l
theorem UL (l:List En):∀S:List En,(S.map (·.1)).Nodup->(rD S l=0↔(∀x∈l,okE x=true)/\((S++l).map (·.1)).Nodup):=by
 induction l with
 | nil=>intro S j;simpa[rD]using j
 | cons x l p=>
  intro S j;unfold rD;by_cases d:okE x=false
  .rw[ze d];refine⟨fun h=>yb h (by decide),fun h=>?_⟩;have:=h.1 x (by simp);rw[d]at this;cases this
  .rw[zb d];have i:okE x=true:=(by simpa using d);by_cases c:(S.any fun y=>decide (y.1=x.1))=true
   .rw[ze c];refine⟨fun h=>yb h (by decide),fun h=>?_⟩;obtain⟨y,g,n⟩:=xX.1 c;have f:y.1=x.1:=(by simpa using n);have m:=h.2;rw[yB,wZ]at m;exact yb f (m.2.2 y.1 (zV.2 ⟨y,g,rfl⟩) x.1 (by simp))
   .rw[zb c,p (S++[x])]
    .rw[zU];simp only[rk,xj,yN,forall_eq_or_imp];simp[i]
    .rw[yB,wZ];refine⟨j,by simp,fun a o b k e=>c ?_⟩;obtain⟨y,g,rfl⟩:=zV.1 o;simp at k;rw[xX];exact⟨y,g,by simp[e,k]⟩
theorem rZ (l:List En):tW l=0↔l.length<=32/\(∀x∈l,okE x=true)/\(l.map (·.1)).Nodup:=by
 unfold tW;by_cases h:32<l.length
 .rw[ze h];exact⟨fun h=>yb h (by decide),fun a=>by omega⟩
 .rw[zb h,UL l [] (by simp)];simp;omega
theorem JY (h:l.Perm m):tW l=0↔tW m=0:=by rw[rZ,rZ,h.length_eq,(h.map (·.1)).nodup_iff];simp only[h.mem_iff]
def oa (S:List En):Prop:=S.Pairwise fun a b=>lexB a.1 b.1=true
theorem IE : ∀{S T:List En},S.Perm T->oa S->oa T->S=T
 | [],T,h,_,_=>by simpa using h.symm
 | x::S,[],h,_,_=>by simp at h
 | x::S,y::T,h,c,d=>by
  unfold oa at c d;rw[ww]at c d;have e:x=y:=by
   have b:x∈y::T:=h.mem_iff.1 (by simp);have a:y∈x::S:=h.mem_iff.2 (by simp);rcases yN.1 b with b|b
   .exact b
   rcases yN.1 a with a|a
   .exact a.symm
   have f:=fB (d.1 x b) (c.1 y a);rw[Zv]at f;cases f
  subst e;rw[IE (S:=S) (T:=T) ((List.perm_cons x).1 h) c.2 d.2]
theorem XI (h:S.Pairwise fun a b=>lexB b.1 a.1=false) (f:(S.map (·.1)).Nodup):oa S:=by
 induction S with
 | nil=>exact List.Pairwise.nil
 | cons x S d=>
  rw[ww]at h;rw[yI,vY]at f;refine ww.2 ⟨fun y c=>?_,d h.2 f.2⟩;cases e:lexB x.1 y.1 with
  | true=>rfl
  | false=>exact yb (zV.2 ⟨y,c,(Zp e (h.1 y c)).symm⟩) f.1
theorem oa.nodup (h:oa S):(S.map (·.1)).Nodup:=by unfold oa at h;rw[List.Nodup,wh];exact h.imp fun a b=>by rw[b,Zv]at a;cases a
def pJ (n:Nat):Nat->Nat->List Nat
 | 0,_=>[]
 | f+1,at_=>if at_<n then pJ n f (2*at_+1)++at_::pJ n f (2*at_+2) else []
theorem VV (n:Nat):∀f g at_,n<=at_+f->n<=at_+g->pJ n f at_=pJ n g at_
 | 0,0,_,_,_=>rfl
 | 0,g+1,at_,h,_=>by rw[pJ,pJ,zb (by omega)]
 | f+1,0,at_,_,h=>by rw[pJ,pJ,zb (by omega)]
 | f+1,g+1,at_,b,a=>by
  rw[pJ,pJ];by_cases h:at_<n
  .rw[ze h,ze h,VV n f g _ (by omega) (by omega),VV n f g (2*at_+2) (by omega) (by omega)]
  .rw[zb h,zb h]
def ino (n at_:Nat):List Nat:=pJ n n at_
theorem iJ (h:n<=at_):ino n at_=[]:=by
 unfold ino;cases n with
 | zero=>rfl
 | succ n=>rw[pJ,zb (by omega)]
theorem LG (h:at_<n):ino n at_=ino n (2*at_+1)++at_::ino n (2*at_+2):=by
 cases n with
 | zero=>omega
 | succ n=>
  show pJ (n+1) (n+1) at_=_;rw[pJ,ze h];unfold ino;rw[VV (n+1) n (n+1) (2*at_+1) (by omega) (by omega),VV (n+1) n (n+1) (2*at_+2) (by omega) (by omega)]
def inoOk (n:Nat):Bool:=decide (pJ n n 0).Nodup&&(pJ n n 0).length==n&&(pJ n n 0).all (· < n)
theorem NA: (List.range 33).all inoOk=true:=by decide +kernel
theorem fN (h:n<=32):(ino n 0).Nodup/\(ino n 0).length=n/\∀m∈ino n 0,m<n:=by have:=(yU.1 NA) n (yT.2 (by omega));unfold inoOk at this;simp only[yM,xo,vv,yU]at this;exact⟨this.1.1,this.1.2,this.2⟩
def putE (D:List Int) (p:Nat×En):List Int:=(over D (16*p.1) (bI p.2.1)).set (16*p.1+14) p.2.2
def layF (D:List Int) (P:List (Nat×En)):List Int:=P.foldl putE D
theorem Mz (D:List Int) (P Q:List (Nat×En)):layF D (P++Q)=layF (layF D P) Q:=by unfold layF;rw[xF]
def rowE (x:En):List Int:=bI x.1++List.replicate (14-x.1.size) 0++[x.2,0]
def pb (D:List Int) (q:Nat):List Int:=(D.drop (16*q)).take 16
theorem KA {E:List Int} {o:Nat} (h:o+E.length<=D.length):(over D o E).length=D.length:=by unfold over;rw[zl,zl,zi,yx];omega
theorem SE (h:16*q+16<=D.length) (a:x.1.size<=14):(putE D (q,x)).length=D.length:=by unfold putE;rw[xG,KA];rw[fR];show 16*q+x.1.size<=_;omega
theorem YV (h:16*q+16<=D.length) (g:x.1.size<=14) (j:Nat):(putE D (q,x))[j]?=if j=16*q+14 then some x.2 else if 16*q<=j/\j<16*q+x.1.size then (bI x.1)[j-16*q]? else D[j]? :=by
 have b:(bI x.1).length=x.1.size:=fR _;unfold putE;rw[sG];by_cases a:j=16*q+14
 .rw[ze a.symm,ze a,ze];rw[KA (by rw[b];omega)];omega
 .rw[zb (fun e=>a e.symm),zb a];unfold over;by_cases d:j<16*q
  .rw[zb (by omega),zO (by rw[zi];omega),zI,ze d]
  .have c:(D.take (16*q)).length=16*q:=(by rw[zi];omega);rw[zx (by rw[c];omega),c];by_cases f:j<16*q+x.1.size
   .rw[ze ⟨by omega,f⟩,zO (by rw[b];omega)]
   .rw[zb (by omega),zx (by rw[b];omega),yo,b]
    congr 1
    omega
theorem WM (D:List Int) (q i:Nat):(pb D q)[i]?=if i<16 then D[16*q+i]? else none:=by unfold pb;rw[zI,yo]
theorem ID {m:Nat} (h:16*q+16<=D.length) (a:x.1.size<=14) (b:m≠q):pb (putE D (q,x)) m=pb D m:=by
 apply xS;intro i;rw[WM,WM];split
 .rw[YV h a,zb (by omega),zb (by omega)]
 .rfl
theorem Lc (h:16*q+16<=D.length) (j:x.1.size<=14) (k:pb D q=List.replicate 16 0):pb (putE D (q,x)) q=rowE x:=by
 have a:(bI x.1).length=x.1.size:=fR _;apply xS;intro i;rw[WM];have c:∀i,i<16->D[16*q+i]?=some 0:=fun i b=>by have:=congrArg (fun l=>l[i]?) k;simp only[WM,ze b]at this;rw[this,yY,ze b]
 unfold rowE;by_cases b:i<16
 .rw[ze b,YV h j];by_cases f:i=14
  .subst f;rw[ze rfl,zx (by simp[a];omega)];simp[a,show 14-(x.1.size+(14-x.1.size))=0 by omega]
  .rw[zb (by omega)];by_cases d:i<x.1.size
   .rw[ze ⟨by omega,by omega⟩,zU,zO (by rw[a];exact d)]
    congr 1
    omega
   .rw[zb (by omega),c i b];by_cases g:i<14
    .rw[zU,zx (by rw[a];omega),zO (by simp[a];omega),yY,ze (by rw[a];omega)]
    .rw[zx (by simp[a];omega)];have e:i=15:=(by omega);subst e;simp[a,show 15-(x.1.size+(14-x.1.size))=1 by omega]
 .rw[zb b,yd];simp[a];omega
theorem XX {n:Nat}:∀(P:List (Nat×En)) (D:List Int),D.length=16*n->(∀p∈P,p.1<n/\p.2.1.size<=14)->(P.map (·.1)).Nodup->(∀p∈P,pb D p.1=List.replicate 16 0) ->
 (layF D P).length=16*n/\(∀p∈P,pb (layF D P) p.1=rowE p.2)/\(∀q,q∉P.map (·.1)->pb (layF D P) q=pb D q)
 | [],D,g,_,_,_=>⟨g,by simp,fun q _=>rfl⟩
 | (q,x)::P,D,g,hP,hn,hz=>by
  rw[yI,vY]at hn;have b:=hP (q,x) (by simp);have c:16*q+16<=D.length:=by have:=b.1;simp at this;omega
  have f:∀p∈P,p.1≠q:=fun p a e=>hn.1 (zV.2 ⟨p,a,e⟩);obtain⟨i,j,h⟩:=XX P (putE D (q,x)) (by rw[SE c b.2];exact g) (fun p a=>hP p (by simp[a])) hn.2 (fun p a=>by rw[ID c b.2 (f p a)];exact hz p (by simp[a]));refine⟨i,fun p a=>?_,fun m d=>?_⟩
  .rcases yN.1 a with rfl|a
   .show pb (layF (putE D (q,x)) P) q=_;rw[h q hn.1];exact Lc c b.2 (hz (q,x) (by simp))
   .exact j p a
  .rw[yI,yN,not_or]at d;show pb (layF (putE D (q,x)) P) m=_;rw[h m d.2,ID c b.2 d.1]
def layS (S:List En):List Int:=layF (List.replicate (16*S.length) 0) ((ino S.length 0).zip S)
def rdN (D:List Int) (q:Nat):ByteArray:=⟨(Lib.trimRightB (sg ((D.drop (16*q)).take 14)).data.toList 0).toArray⟩
def rdE (D:List Int) (q:Nat):En:=(rdN D q,D.getD (16*q+14) 0)
theorem Qt (h:q<n):pb (List.replicate (16*n) (0:Int)) q=List.replicate 16 0:=by
 unfold pb;rw[List.drop_replicate,List.take_replicate]
 congr 1
 omega
theorem XW (i:S.length<=32) (j:∀x∈S,x.1.size<=14):(layS S).length=16*S.length/\∀p∈(ino S.length 0).zip S,pb (layS S) p.1=rowE p.2:=by
 obtain⟨g,h,c⟩:=fN i;have e:((ino S.length 0).zip S).map (·.1)=ino S.length 0:=by rw[List.map_fst_zip];omega
 obtain⟨d,f,_⟩:=XX (n:=S.length) ((ino S.length 0).zip S) (List.replicate (16*S.length) 0) (by simp) (fun p b=>by have a:=(l7 b);exact⟨c _ a.1,j _ a.2⟩) (by rw[e];exact g) (fun p b=>Qt (c _ (l7 b).1));exact⟨d,f⟩
theorem Yv (d:List Int):(sg d).data.toList=d.map fun n=>UInt8.ofNat n.toNat:=by
 have b:∀(l:List Int) (r:ByteArray),(l.foldl (fun r n=>r.push (UInt8.ofNat n.toNat)) r).data.toList=r.data.toList++l.map fun n=>UInt8.ofNat n.toNat:=by
  intro l
  induction l with
  | nil=>intro r;simp
  | cons a l c=>intro r;rw[wS,c];simp[ByteArray.push]
 simpa[sg]using b d ByteArray.empty
theorem TE (s:ByteArray):(bI s).map (fun n=>UInt8.ofNat n.toNat)=s.data.toList:=by
 unfold bI;rw[vB]
 conv=>rhs;rw[<-List.map_id s.data.toList]
 refine wW fun b _=>?_;simp
theorem OM (l:List UInt8) (k:Nat) (h:∀b∈l,b≠0):Lib.trimRightB (l++List.replicate k 0) 0=l:=by
 unfold Lib.trimRightB;rw[List.reverse_append,List.reverse_replicate,List.dropWhile_append_of_pos (fun a c=>by rw[uR]at c;simp[c.2])];have:l.reverse.dropWhile (·==0)=l.reverse:=by
  cases d:l.reverse with
  | nil=>rfl
  | cons b r=>
   have e:b∈l:=(by rw[<-mQ,d];simp);have:=h b e;rw[List.dropWhile_cons_of_neg (by simpa using this)]
 rw[this,List.reverse_reverse]
theorem jo (h:okE x=true):ru x.1=true/\1<=x.2/\x.2<=32:=by unfold okE at h;simp only[yM,xo]at h;exact⟨h.1.1,h.1.2,h.2⟩
theorem VG {s:ByteArray} (h:ru s=true):s.size<=14/\∀b∈s.data.toList,b≠0:=by unfold ru at h;simp only[yM,xo,ub,List.contains_eq_mem,zJ]at h;exact⟨h.1.1.1.1.2,fun b a e=>h.1.2 (by rw[<-e];exact a)⟩
theorem UI (h:pb D q=rowE x) (k:okE x=true):rdE D q=x:=by
 obtain⟨d,g,j⟩:=jo k;obtain⟨i,e⟩:=VG d;have a:(bI x.1).length=x.1.size:=fR _;have b:(D.drop (16*q)).take 14=bI x.1++List.replicate (14-x.1.size) 0:=by
  have:(D.drop (16*q)).take 14=(pb D q).take 14:=by unfold pb;rw[vf];rfl
  rw[this,h];unfold rowE;rw[yR (by simp[a];omega),zv (by simp[a];omega)]
 have f:D.getD (16*q+14) 0=x.2:=by have:=congrArg (fun l=>l[14]?) h;simp only[WM]at this;rw[ze (by omega)]at this;rw[zh,this];unfold rowE;rw[zx (by simp[a];omega)];simp[a,show 14-(x.1.size+(14-x.1.size))=0 by omega]
 unfold rdE;rw[f];refine Prod.ext ?_ rfl;show rdN D q=x.1;unfold rdN;rw[Yv,b,yB,TE];have c:(List.replicate (14-x.1.size) (0:Int)).map (fun n=>UInt8.ofNat n.toNat)=List.replicate (14-x.1.size) 0:=by simp
 rw[c,OM _ _ e]
theorem SB (k:S.length<=32) (l:∀x∈S,okE x=true):(ino S.length 0).map (rdE (layS S))=S:=by
 obtain⟨h,d,j⟩:=fN k;obtain⟨_,c⟩:=XW k (fun x f=>(VG (jo (l x f)).1).1);refine tu (by simp[d]) fun i e a=>?_;rw[uH];have b:i<(ino S.length 0).length:=by simpa using e
 have g:((ino S.length 0)[i],S[i])∈(ino S.length 0).zip S:=by rw[va];exact⟨i,by rw[List.getElem?_zip_eq_some];simp[b,a]⟩
 exact UI (c _ g) (l _ (zz a))
theorem Rd (b:S.length<=32) (c:∀x∈S,okE x=true):(layS S).length=16*S.length:=(XW b (fun x a=>(VG (jo (c x a)).1).1)).1
def leE (a b:En):Bool:= !lexB b.1 a.1
def oY (l:List En):List En:=l.mergeSort leE
theorem mx (l:List En):(oY l).Perm l:=tT _ _
theorem PF (a b c:En) (e:leE a b=true) (f:leE b c=true):leE a c=true:=by
 unfold leE at *
 simp only[ub]at *
 cases h:lexB c.1 a.1 with
 | false=>rfl
 | true=>
  cases d:lexB b.1 c.1 with
  | true=>rw[fB d h]at e;cases e
  | false=>rw[Zp f d]at h;rw[e]at h;cases h
theorem PG (a b:En):(leE a b||leE b a)=true:=by
 unfold leE;cases h:lexB b.1 a.1 with
 | false=>rfl
 | true=>
  cases c:lexB a.1 b.1 with
  | false=>rfl
  | true=>have:=fB h c;rw[Zv]at this;cases this
theorem V6 (h:(l.map (·.1)).Nodup):oa (oY l):=by have d:(oY l).Pairwise fun a b=>leE a b=true:=List.pairwise_mergeSort PF PG l;refine XI (d.imp fun c=>by unfold leE at c;simpa using c) ?_;exact ((mx l).map (·.1)).nodup_iff.2 h
theorem YM {T:List En} (a:T.Perm l) (b:oa T):T=oY l:=
 IE (a.trans (mx l).symm) b (V6 ((a.map (·.1)).nodup_iff.1 b.nodup))
theorem L2 (l:List En):(oY l).length=l.length:=(mx l).length_eq
theorem Mk (a:l.Perm m) (h:(l.map (·.1)).Nodup):oY l=oY m:=YM ((mx l).trans a) (V6 h)
theorem Vo (h:tW l=0):(oY l).length<=32/\(∀x∈oY l,okE x=true)/\oa (oY l):=by have a:=(rZ l).1 h;exact⟨by rw[L2];exact a.1,fun x b=>a.2.1 x ((mx l).mem_iff.1 b),V6 a.2.2⟩
def layD (l:List En):List Int:=layS (oY l)
theorem Zh (h:tW l=0):(layD l).length=16*l.length:=by obtain⟨a,b,_⟩:=Vo h;unfold layD;rw[Rd a b,L2]
theorem PH (a:l.Perm m) (h:tW l=0):layD l=layD m:=by unfold layD;rw[Mk a ((rZ l).1 h).2.2]
def outD (D:List Int):List En:=(ino (D.length / 16) 0).map (rdE D)
def sI (D:List Int):Bool:=decide (D.length%16=0)&&decide (D.length<=512)&&decide (tW (outD D)=0)&&decide (layD (outD D)=D)
theorem ny (D:List Int):sI D=true↔D.length%16=0/\D.length<=512/\tW (outD D)=0/\layD (outD D)=D:=by unfold sI;simp only[yM,xo];constructor<;>(intro h;simp[h])
theorem gH (h:tW l=0):outD (layD l)=oY l:=by obtain⟨a,b,_⟩:=Vo h;unfold outD;rw[Zh h,show 16*l.length / 16=l.length by omega,<-L2 l];exact SB a b
theorem Y7 (h:tW l=0):sI (layD l)=true:=by obtain⟨a,b,d⟩:=Vo h;have c:=(rZ l).1 h;rw[ny,gH h,Zh h];refine⟨by omega,by omega,(JY (mx l)).2 h,?_⟩;exact PH (mx l) ((JY (mx l)).2 h)
theorem lr (h:sI D=true):oa (outD D)/\tW (outD D)=0/\(outD D).length=D.length / 16/\layD (outD D)=D:=by obtain⟨f,e,a,c⟩:=(ny D).1 h;have d:=(rZ _).1 a;have b:=gH a;rw[c]at b;refine⟨by rw[b];exact V6 d.2.2,a,?_,c⟩;unfold outD;rw[yw,(fN (by omega)).2.1]
structure FInv (D:List Int) (n:Nat) (name:ByteArray) (q k:Nat):Prop where
 seg:∃A B,ino n 0=A++ino n q++B/\(∀m∈A,lexB (rdE D m).1 name=true)/\(∀m∈B,lexB name (rdE D m).1=true)
 pow:2 ^ k<=q+1
 few:k=0\/2 ^ (k-1)<=n
theorem FInv.start (D:List Int) (n:Nat) (name:ByteArray):FInv D n name 0 0:=
 ⟨⟨[],[],by simp,by simp,by simp⟩,by simp,zt rfl⟩
section
variable {D : List Int} {n q k : Nat} {name : ByteArray}
theorem FInv.mid (h:FInv D n name q k) (d:q<n):∃A B,ino n 0=(A++ino n (2*q+1))++q::(ino n (2*q+2)++B)/\(∀m∈A,lexB (rdE D m).1 name=true)/\(∀m∈B,lexB name (rdE D m).1=true):=by obtain⟨A,B,b,a,c⟩:=h.seg;exact⟨A,B,by rw[b,LG d];simp,a,c⟩
theorem FInv.left (h:FInv D n name q k) (i:q<n) (g:oa ((ino n 0).map (rdE D))) (f:lexB name (rdE D q).1=true):FInv D n name (2*q+1) (k+1):=by
 obtain⟨A,B,b,c,e⟩:=h.mid i;have d:=h.pow;refine⟨⟨A,q::(ino n (2*q+2)++B),by rw[b],c,fun m a=>?_⟩,by rw[Nat.pow_succ];omega,zu (by simp;omega)⟩;rcases yN.1 a with rfl|a
 .exact f
 .unfold oa at g;rw[b,yB,tH,yI,ww]at g;exact fB f (g.2.1.1 _ (zV.2 ⟨m,a,rfl⟩))
theorem FInv.right (h:FInv D n name q k) (i:q<n) (g:oa ((ino n 0).map (rdE D))) (f:lexB (rdE D q).1 name=true):FInv D n name (2*q+2) (k+1):=by
 obtain⟨A,B,b,e,c⟩:=h.mid i;have d:=h.pow;refine⟨⟨A++ino n (2*q+1)++[q],B,by rw[b];simp,fun m a=>?_,c⟩,by rw[Nat.pow_succ];omega,zu (by simp;omega)⟩;rw[yv,xw]at a;rcases a with a|rfl
 .unfold oa at g;rw[b,yB,tH]at g;exact fB (g.2.2 _ (zV.2 ⟨m,a,rfl⟩) _ (by simp)) f
 .exact f
theorem FInv.found (h:FInv D n name q k) (b:q<n) (c:name=(rdE D q).1):∃x∈(ino n 0).map (rdE D),x.1=name/\x.2=(rdE D q).2:=by obtain⟨A,B,a,_,_⟩:=h.mid b;exact⟨rdE D q,zV.2 ⟨q,by rw[a];simp,rfl⟩,c.symm,rfl⟩
theorem FInv.none (h:FInv D n name q k) (g:n<=q):∀x∈(ino n 0).map (rdE D),x.1≠name:=by
 obtain⟨A,B,d,c,e⟩:=h.seg;intro x f b;obtain⟨m,a,rfl⟩:=zV.1 f;rw[d,iJ g,xn,yv]at a;rcases a with a|a
 .have:=c m a;rw[b,Zv]at this;cases this
 .have:=e m a;rw[b,Zv]at this;cases this
end
end Go.Proofs.YtakfhadmokoikaaGreatDoor
namespace Go.Proofs.YtakfhadmokoikaaGreatDoor
open Go.RowKit Go.Maps
open Go (World.grownBy)
variable {cnt r:Nat} {done:List (Int×Value)} {k x:Int} {z:Value} {α:Type}
def InZ (x:Int):Prop:= -9223372036854775808<=x/\x<=9223372036854775807
def putZ {α:Type}:List (Int×α)->Int->α->List (Int×α)
 | [],k,v=>[(k,v)]
 | y::r,k,v=>if k<y.1 then (k,v)::y::r else if k=y.1 then (k,v)::r else y::putZ r k v
def getZ {α:Type}:List (Int×α)->Int->Option α
 | [],_=>none
 | y::r,k=>if y.1=k then some y.2 else getZ r k
def delZ {α:Type} (l:List (Int×α)) (k:Int):List (Int×α):=l.filter fun y=> !decide (y.1=k)
def se {α:Type} (l:List (Int×α)):Prop:=l.Pairwise fun a b=>a.1<b.1
def hasZ {α:Type} (l:List (Int×α)) (k:Int):Bool:=(getZ l k).isSome
theorem se.tail {y:Int×α} {r:List (Int×α)} (h:se (y::r)):se r:=(ww.1 h).2
theorem se.head {y:Int×α} {r:List (Int×α)} (h:se (y::r)):∀z∈r,y.1<z.1:=(ww.1 h).1
theorem ms {α:Type} {k:Int} {v:α}:∀{l:List (Int×α)} {z:Int×α},z∈putZ l k v->z=(k,v)\/z∈l
 | [],z,h=>by simpa[putZ]using h
 | y::r,z,h=>by
  unfold putZ at h;split at h
  .rcases yN.1 h with h|h
   .exact zt h
   .exact zu h
  .split at h
   .rcases yN.1 h with h|h
    .exact zt h
    .exact zu (xh _ h)
   .rcases yN.1 h with h|h
    .exact zu (h▸xx)
    .rcases ms h with h|h
     .exact zt h
     .exact zu (xh _ h)
theorem Zk {α:Type} (k:Int) (v:α):∀{l:List (Int×α)},se l->se (putZ l k v)
 | [],_=>ww.2 ⟨by simp,List.Pairwise.nil⟩
 | y::r,h=>by
  unfold putZ;split
  .rename_i b;refine ww.2 ⟨fun z a=>?_,h⟩;rcases yN.1 a with rfl|a
   .exact b
   .have:=h.head z a;show k<z.1;omega
  .split
   .rename_i b;exact ww.2 ⟨fun z a=>by have:=h.head z a;show k<z.1;omega,h.tail⟩
   .rename_i d c;refine ww.2 ⟨fun z a=>?_,Zk k v h.tail⟩;rcases ms a with rfl|a
    .show y.1<k;omega
    .exact h.head z a
theorem Wi (k:Int) {l:List (Int×α)} (h:se l):se (delZ l k):=h.filter _
theorem Xs {l:List (Int×α)} {z:Int×α} (h:z∈delZ l k):z∈l:=(vt.1 h).1
theorem oS {α:Type} (k:Int) (v:α):∀(l:List (Int×α)),(putZ l k v).length<=l.length+1
 | []=>by simp[putZ]
 | y::r=>by
  unfold putZ;have:=oS k v r;split
  .simp
  .split
   .simp
   .simp only[yz];omega
theorem nt {α:Type} {k:Int} {v:α}:∀{l:List (Int×α)},getZ l k=some v->(k,v)∈l
 | [],h=>by simp[getZ]at h
 | y::r,h=>by
  unfold getZ at h;split at h
  .rename_i e;cases h;subst e;exact xx
  .exact xh _ (nt h)
theorem mJ {α:Type} {k:Int} {v:α}:∀{l:List (Int×α)},se l->(k,v)∈l->getZ l k=some v
 | y::r,a,h=>by
  unfold getZ;rcases yN.1 h with h|h
  .subst h;rw[ze rfl]
  .have:=a.head _ h;rw[zb (by intro e;simp only[e]at this;omega)];exact mJ a.tail h
theorem ZC {α:Type} (k:Int) (v:α):∀(l:List (Int×α)),getZ (putZ l k v) k=some v
 | []=>by simp[putZ,getZ]
 | y::r=>by
  unfold putZ;split
  .simp[getZ]
  .split
   .simp[getZ]
   .rename_i b a;rw[getZ,zb (fun e=>a e.symm)];exact ZC k v r
theorem lu {α:Type} {k j:Int} (v:α) (c:j≠k):∀(l:List (Int×α)),getZ (putZ l k v) j=getZ l j
 | []=>by simp[putZ,getZ,yF c]
 | y::r=>by
  unfold putZ;split
  .simp[getZ,yF c]
  .split
   .rename_i a b;rw[getZ,getZ,zb (yF c),zb (by omega)]
   .rw[getZ,getZ,lu v c r]
def qP (v:Value):Option (DataW Value×List MemPlace):=some (.held v,[])
def encZ (x:Int×Value):Lit×DataW Value:=(.int .i64 x.1,.held x.2)
def MapL (P:Program) (K:TypeId) (w:World) (b:Nat) (l:List (Int×Value)):Prop:=
 w.ownsMap P K qP b l.length (.map (l.map encZ))/\se l/\(∀x∈l,InZ x.1)
section
variable {P : Program} {K T E : TypeId} {w w' : World} {b : Nat} {l : List (Int×Value)}
theorem wf_z (h:InZ x):(Lit.int .i64 x).wf=true:=WalkArith.wf_i64 ⟨h.1,h.2⟩
theorem kg (a:P.underlying K=some (.int .i64)) (h:InZ x):keyOf P K (.int .i64 x)=some (.int .i64 x):=keyOf_int_mk a (wf_z h)
theorem MapL.lt (h:MapL P K w b l):b<w.heap.size:=h.1.lt
theorem MapL.made (w:World):MapL P K (w.alloc (.map #[] 0)) w.heap.size []:=⟨World.ownsMap_made _ _ _ _,List.Pairwise.nil,by simp⟩
theorem MapL.of_block (h:MapL P K w b l) (g:w'.heap[b]?=w.heap[b]?):MapL P K w' b l:=by obtain⟨⟨e,a,d,c⟩,f⟩:=h;exact⟨⟨e,a,g.trans d,c⟩,f⟩
theorem ky (x k:Int):(Lit.int .i64 x).sameKey (.int .i64 k)=decide (x=k):=by simp[Lit.sameKey]
theorem Ih (l:List (Int×Value)) (k:Int):(l.map encZ).filter (fun p=> !p.1.sameKey (.int .i64 k))=(delZ l k).map encZ:=by
 unfold delZ;rw[List.filter_map]
 congr 1
 apply List.filter_congr;intro x _;show (!(Lit.int .i64 x.1).sameKey (.int .i64 k))=_;rw[ky]
theorem Ib (k:Int) (v:Value):∀{l:List (Int×Value)},se l->DataW.insert (encZ (k,v)) ((delZ l k).map encZ)=(putZ l k v).map encZ
 | [],_=>rfl
 | y::r,h=>by
  have f:=Ib k v h.tail;have a:∀z∈r,y.1<z.1:=h.head;unfold delZ at *
  rw[vy,putZ];by_cases b:k<y.1
  .rw[ze b,ze (by simp;omega)];have e:r.filter (fun y=> !decide (y.1=k))=r:=(by apply uM.2;intro z d;have:=a z d;simp;omega);rw[e,yI,DataW.insert,ze (by show decide (k<y.1)=true;simpa using b)];rfl
  .rw[zb b];by_cases c:k=y.1
   .rw[ze c,zb (by simp[c])];have e:r.filter (fun y=> !decide (y.1=k))=r:=(by apply uM.2;intro z d;have:=a z d;simp;omega);rw[e];cases r with
    | nil=>rfl
    | cons z r=>
     have:=a z xx;rw[yI,DataW.insert,ze (by show decide (k<z.1)=true;simp;omega)];rfl
   .rw[zb c,ze (by simp;omega),yI,DataW.insert,zb (by show ¬decide (k<y.1)=true;simpa using b),f];rfl
theorem Vi (k:Int) (zd:DataW Value):∀(l:List (Int×Value)),(DataW.map (l.map encZ)).atKey (.int .i64 k) zd=((getZ l k).map DataW.held).getD zd
 | []=>rfl
 | y::r=>by
  have b:=Vi k zd r;unfold DataW.atKey at b ⊢;simp only[yI,List.find?_cons]at b ⊢;have e:(encZ y).1.sameKey (.int .i64 k)=decide (y.1=k):=ky _ _;rw[e,getZ];by_cases a:y.1=k
  .rw[ze a,yf a];rfl
  .rw[zb a,zK a];exact b
theorem LH (k:Int):∀(l:List (Int×Value)),Maps.has (DataW.map (l.map encZ)) (.int .i64 k)=hasZ l k
 | []=>rfl
 | y::r=>by
  have b:=LH k r;unfold hasZ at b ⊢;rw[has_eq]at b ⊢;simp only[yI,List.any_cons];rw[b];show ((Lit.int .i64 y.1).sameKey (.int .i64 k)||_)=_;rw[ky,getZ];by_cases a:y.1=k
  .rw[ze a,yf a];rfl
  .rw[zb a,zK a];rfl
theorem Xy {v:Value} {x:Value} {ps:List MemPlace} (h:qP v=some (.held x,ps)):v=x:=by unfold qP at h;simp only[zw,Prod.mk.injEq,DataW.held.injEq]at h;exact h.1
theorem MapL.look (h:MapL P K w b l) (f:P.underlying K=some (.int .i64)) (g:P.underlying T=some (.map K E)) (i:(zeroValue E).run P w=.ok z w) (j:InZ k):
 (Instr.lookup T (.map (some b)) (.int .i64 k) false).run P w=.ok ((getZ l k).getD z) w:=by
 obtain⟨v,d,c,a⟩:=h.1.lookup (int_keyed f) g i (zd:=.held z) (zp:=[]) rfl (kg f j);rw[Vi]at a;have e:((getZ l k).map DataW.held).getD (.held z)=.held ((getZ l k).getD z):=by cases getZ l k<;>rfl
 rw[e]at a;rw[c,Xy a]
theorem MapL.look_ok (h:MapL P K w b l) (f:P.underlying K=some (.int .i64)) (g:P.underlying T=some (.map K E)) (i:(zeroValue E).run P w=.ok z w) (j:InZ k):
 (Instr.lookup T (.map (some b)) (.int .i64 k) true).run P w=.ok (.tuple #[(getZ l k).getD z,.bool (hasZ l k)]) w:=by
 obtain⟨v,d,c,a⟩:=h.1.look_ok (int_keyed f) g i (zd:=.held z) (zp:=[]) rfl (kg f j);rw[Vi]at a;have e:((getZ l k).map DataW.held).getD (.held z)=.held ((getZ l k).getD z):=by cases getZ l k<;>rfl
 rw[e]at a;rw[c,Xy a,LH]
theorem MapL.len (h:MapL P K w b l) (c:P.underlying T=some (.map K E)) (a:TypeId):(Builtin.len_ #[T] a #[.map (some b)]).run P w=.ok (.int .i64 (l.length:Int)) w:=by rw[h.1.len c a];simp[Maps.size]
theorem MapL.shrink {n:Nat} (h:w.ownsMap P K qP b n (.map (l.map encZ))):w.ownsMap P K qP b l.length (.map (l.map encZ)):=by
 obtain⟨c,a,e,F,f,d⟩:=h;refine⟨c,a,e,F,?_,d⟩;have:l.length=c.size:=by have:=congrArg Maps.size d;simpa[Maps.size,length_sorted]using this
 omega
theorem MapL.store (h:MapL P K w b l) (i:P.underlying K=some (.int .i64)) (m:P.underlying T=some (.map K E)) (o:l.length<1000000) (j:InZ k) (v:Value):
 ∃w',(Instr.mapUpdate T (.map (some b)) (.int .i64 k) v).run P w=.ok () w'/\MapL P K w' b (putZ l k v)/\w.mapTurned w' b:=by
 obtain⟨w',f,c,g⟩:=h.1.store (int_keyed i) m (by unfold maxLen;omega) (kg i j) (d:=.held v) (ps:=[]) (val:=v) rfl;refine⟨w',f,⟨MapL.shrink (n:=l.length+1) ?_,Zk k v h.2.1,fun x a=>?_⟩,g⟩
 .have e:(DataW.map (l.map encZ)).put (.int .i64 k) (.held v)=.map ((putZ l k v).map encZ):=by show DataW.map (DataW.insert (encZ (k,v)) ((l.map encZ).filter fun p=> !p.1.sameKey (.int .i64 k)))=_;rw[Ih,Ib k v h.2.1]
  rw[e]at c;exact c
 .rcases ms a with rfl|a
  .exact j
  .exact h.2.2 x a
theorem MapL.drop (h:MapL P K w b l) (g:P.underlying K=some (.int .i64)) (j:P.underlying T=some (.map K E)) (m:InZ k) (i:TypeId):
 ∃w',(Builtin.delete_ #[T,K] i #[.map (some b),k]).run P w=.ok (.tuple #[]) w'/\MapL P K w' b (delZ l k)/\w.mapTurned w' b:=by
 obtain⟨w',c,a,d⟩:=h.1.drop (int_keyed g) j (kg g m) i;refine⟨w',c,⟨MapL.shrink (n:=l.length) ?_,Wi k h.2.1,fun x f=>h.2.2 x (Xs f)⟩,d⟩;have e:(DataW.map (l.map encZ)).del (.int .i64 k)=.map ((delZ l k).map encZ):=by show DataW.map ((l.map encZ).filter fun p=> !p.1.sameKey (.int .i64 k))=_;rw[Ih]
 rw[e]at a;exact a
def rA (P:Program) (K:TypeId) (w:World) (b r:Nat) (l done:List (Int×Value)) (cnt:Nat):Prop:=
 se l/\(∀x∈l,InZ x.1)/\(done.map (·.1)).Nodup/\(∀x∈done,x∈l)/\∃left,w.ranges P K qP b r l.length (.map (l.map encZ)) left cnt/\∀x,InZ x->left (.int .i64 x)=(hasZ l x&&!(done.map (·.1)).contains x)
theorem rA.map (h:rA P K w b r l done cnt):MapL P K w b l:=by obtain⟨d,c,_,_,a,e,_⟩:=h;exact⟨e.owns,d,c⟩
theorem rA.ne (h:rA P K w b r l done cnt):r≠b:=by obtain⟨e,d,_,_,a,c,_⟩:=h;exact c.ne
theorem rA.lt (h:rA P K w b r l done cnt):r<w.heap.size:=by obtain⟨e,d,_,_,a,c,_⟩:=h;exact c.lt
theorem rA.left_eq (h:rA P K w b r l done cnt):w.rangeLeft b r=cnt:=by obtain⟨e,d,_,_,a,c,_⟩:=h;exact c.left_eq
theorem rA.of_block (h:rA P K w b r l done cnt) (v:w'.heap[b]?=w.heap[b]?) (x:w'.heap[r]?=w.heap[r]?):rA P K w' b r l done cnt:=by obtain⟨m,i,o,j,e,⟨n,c,a,d,s,k,t,p,f,u,g⟩,q⟩:=h;exact⟨m,i,o,j,e,⟨n,c,a,d,s,v.trans k,t,p,f,x.trans u,g⟩,q⟩
theorem Zm : ∀{xs ys:List Int},xs.Nodup->xs ⊆ ys->xs.length<=ys.length
 | [],_,_,_=>ye _
 | x::xs,ys,h,a=>by obtain⟨g,f⟩:=vY.1 h;have b:x∈ys:=a xx;have d:=Zm (ys:=ys.erase x) f (fun z c=>(List.mem_erase_of_ne (fun e:z=x=>g (e▸c))).2 (a (xh _ c)));rw[List.length_erase_of_mem b]at d;have:0<ys.length:=rK b;simp only[yz];omega
theorem Nl {l:List (Int×Value)} (q:se l) (s:(done.map (·.1)).Nodup) (r:∀x∈done,x∈l) (t:∀x∈l,x.1∈done.map (·.1)):done.Perm l:=by
 have o:done.Nodup:=List.Pairwise.of_map _ (fun a b d e=>d (by rw[e])) s;have p:l.Nodup:=q.imp fun h e=>by rw[e]at h;omega
 refine (jQ o p).2 fun a=>⟨r a,fun g=>?_⟩;obtain⟨c,i,e⟩:=zV.1 (t a g);have f:=r c i;have m:=mJ q (k:=a.1) (v:=a.2) g;have j:=mJ q (k:=c.1) (v:=c.2) f;rw[e,m]at j;have n:a.2=c.2:=rS j;have:c=a:=Prod.ext e n.symm;exact this▸i
end
section
variable {P : Program} (w : World) {ops : Array Oper} {rest : List Oper} {o : Oper} {a : Act} {Q : Exit->Act->World->Prop}
theorem Ue (j:o.guard=none) (m:Operand) (t:TypeId) (g:o.op=Op.range t m) (K E:TypeId) (i:P.underlying K=some (.int .i64)) (k:P.underlying t=some (.map K E)) (b:Nat) (l:List (Int×Value))
 (n:a.eval m=.map (some b)) (h:MapL P K w b l)
 (p:∀w',rA P K w' b w l [] l.length->w.grownBy w' none->w'.heap.size=w.heap.size+1->wpList P ops Q rest (a.put o.dst (w.heap.size,())) w'):
 wpList P ops Q (o::rest) a w:=by
 refine wpList_range_own w j m t g K E (int_keyed i) k qP b l.length (.map (l.map encZ)) n h.1 fun w' d c f=>p w' ⟨h.2.1,h.2.2,by simp,by simp,Maps.has (DataW.map (l.map encZ)),?_,fun x _=>?_⟩ c f
 .have e:Maps.size (DataW.map (l.map encZ))=l.length:=by simp[Maps.size]
  rw[e]at d;exact d
 .rw[LH];simp
theorem V8 (hg:o.guard=none) (it:Operand) (ai:o.op=Op.next it false) (K:TypeId) (ab:P.underlying K=some (.int .i64)) (b r:Nat) (l aa:List (Int×Value)) (ad:Nat)
 (aj:a.eval it=.pointer (some ⟨r,0,none⟩)) (h:rA P K w b r l aa ad)
 (ae:aa.Perm l->wpList P ops Q rest (a.put o.dst (.tuple #[.bool false])) w)
 (af:∀(x:Int) (c:Value) (w':World) (cnt':Nat),InZ x->(x,c)∈l->x∉aa.map (·.1)->aa.length<l.length->rA P K w' b r l (aa++[(x,c)]) cnt'->cnt'<ad ->
  w.grownBy w' (some r)->w'.heap.size=w.heap.size->(Instr.entry (r,())).run P w'=.ok (.tuple #[x,c]) w'->wpList P ops Q rest (a.put o.dst (.tuple #[.bool true,x,c])) w'):
 wpList P ops Q (o::rest) a w:=by
 obtain⟨G,T,N,F,i,X,R⟩:=h;refine wpList_next_ranges (α:=Int) (β:=Value) w hg it ai K (int_keyed ab) qP (Value.int .i64) id (fun Z kl W=>by obtain⟨x,rfl,_⟩:=Maps.keyOf_int_inv ab W;exact⟨x,rfl⟩) (fun v _ _=>⟨v,rfl⟩) b r l.length _ i ad aj X (fun _ C=>ae ?_) ?_
 .refine Nl G N F fun x A=>?_;have e:=C (.int .i64 x.1);rw[R x.1 (T x A)]at e;have hg:hasZ l x.1=true:=by unfold hasZ;rw[mJ G (k:=x.1) (v:=x.2) A];rfl
  rw[hg]at e;simpa using e
 .intro x c kl y w' cnt' t O U E H D M J I;obtain⟨x',V,rfl,j⟩:=Maps.keyOf_int_inv ab t;cases V;have A:InZ x:=by simp only[Lit.wf,yM,xo]at j;have e1:IntKind.i64.min = -9223372036854775808:=rfl;have Y:IntKind.i64.max=9223372036854775807:=rfl;rw[e1,Y]at j;exact j
  have C:=R x A;rw[O]at C;have f:hasZ l x=true/\x∉aa.map (·.1):=by have:=C.symm;simp only[yM,ub,List.contains_eq_mem,zJ]at this;exact this
  obtain⟨v,s⟩:∃v,getZ l x=some v:=ve.1 f.1;have hc:v=c:=by have:=E (.held c);rw[Vi,s]at this;unfold qP at U;cases U;simpa using this
  subst hc;have d:=nt s;have u:aa.length<l.length:=by
   have B:(aa.map (·.1)++[x]).Nodup:=wZ.2 ⟨N,by simp,fun a S b p e=>f.2 (by simp at p;rw[<-p,<-e];exact S)⟩;have L:(aa.map (·.1)++[x]) ⊆ l.map (·.1):=fun z g=>by
    rcases yv.1 g with g|g
    .obtain⟨y,hy,rfl⟩:=zV.1 g;exact zV.2 ⟨y,F y hy,rfl⟩
    .simp at g;subst g;exact zV.2 ⟨_,d,rfl⟩
   have:=Zm B L;simp at this;omega
  refine af x v w' cnt' A d f.2 u ⟨G,T,?_,?_,_,H,fun z g=>?_⟩ D M J I
  .rw[yB];exact wZ.2 ⟨N,by simp,fun a S b p e=>f.2 (by simp at p;rw[<-p,<-e];exact S)⟩
  .intro q n;rcases yv.1 n with n|n
   .exact F q n
   .simp at n;subst n;exact d
  .show (i (.int .i64 z)&&!(Lit.int .i64 z).sameKey (.int .i64 x))=_;rw[R z g,ky];by_cases m:z=x
   .subst m;simp
   .have:((aa++[(x,v)]).map (·.1)).contains z=(aa.map (·.1)).contains z:=(by simp[m]);rw[this,zK m];simp
theorem K1 (n:o.guard=none) (m x v:Operand) (t:TypeId) (i:o.op=Op.mapUpdate t m x v)
 (K E:TypeId) (j:P.underlying K=some (.int .i64)) (p:P.underlying t=some (.map K E)) (b:Nat) (l:List (Int×Value)) (k:Int) (val:Value)
 (q:a.eval m=.map (some b)) (h:MapL P K w b l) (r:l.length<1000000) (s:a.eval x=.int .i64 k) (u:a.eval v=val) (y:InZ k)
 (z:∀w',MapL P K w' b (putZ l k val)->w.mapTurned w' b->wpList P ops Q rest (a.put o.dst undef) w'):
 wpList P ops Q (o::rest) a w:=by
 refine uX n fun g d=>?_;obtain⟨w',c,f,e⟩:=h.store j p r y val;unfold Oper.wp;simp[execOp,i,q,s,u,c,Result.andThen];exact d _ _ (z w' f e)
theorem Hk (n:o.guard=none) (m x:Operand) (t K:TypeId) (i:o.op=Op.call {callee:=Callee.builtin Builtin.delete,args:=#[m,x],argTypes:=#[t,K]})
 (E:TypeId) (j:P.underlying K=some (.int .i64)) (p:P.underlying t=some (.map K E)) (b:Nat) (l:List (Int×Value)) (k:Int)
 (q:a.eval m=.map (some b)) (h:MapL P K w b l) (r:a.eval x=.int .i64 k) (s:InZ k)
 (u:∀w',MapL P K w' b (delZ l k)->w.mapTurned w' b->wpList P ops Q rest (a.put o.dst (.tuple #[])) w'):
 wpList P ops Q (o::rest) a w:=by
 refine uX n fun g d=>?_;obtain⟨w',c,f,e⟩:=h.drop j p s o.type;unfold Oper.wp;simp[execOp,i,resolve,invoke,builtin,q,r,c,Result.andThen];exact d _ _ (u w' f e)
end
