import Derived.Test.YtmanoiagchpelaaGreatDoorKA1
import Derived.Test.YtmanoiagchpelaaGreatDoorKA3
import Derived.Lib.TrimByte
import Derived.Lib.Bytealg
import Derived.Lib.IndexLaws
import Derived.Maps.RangeWalk
import Derived.Maps.OwnSet
import Derived.Maps.OwnOps
import Derived.Maps.Ext
import Derived.WalkSpells
import Derived.Shelf.Small.Strs
import Derived.Shelf.Strings.Trim
import Derived.Sort.Grow
import Derived.Test.YtmanoiagchpelaaGreatDoorRows
set_option maxHeartbeats 0
set_option linter.all false
set_option maxRecDepth 100000
namespace Go.Proofs.YtmanoiagchpelaaGreatDoor
open Go.Proofs.Tryz Go.RowKit
variable {D:List Int} {S l m:List En} {a b:ByteArray} {at_ n q:Nat} {x:En}
abbrev oE:=@World.ownsMap_made
abbrev qF:=@wpList_mapUpdate_own
abbrev su:=@Maps.keyOf_int_inv
theorem IG : ∀x,Op.bytesLess x x=false
 | []=>rfl
 | a::x=>by have h:=UInt8.lt_irrefl a;simp[Op.bytesLess,h,IG x]
theorem JZ : ∀x y z,Op.bytesLess x y=true->Op.bytesLess y z=true->Op.bytesLess x z=true
 | _,[],_,h,_=>by simp[Op.bytesLess]at h
 | _,_::_,[],_,h=>by simp[Op.bytesLess]at h
 | [],_::_,_::_,_,_=>by simp[Op.bytesLess]
 | a::x,b::y,c::z,e,d=>by
  simp only[Op.bytesLess,r9,xw,yL,vx]at *
  rcases e with e|⟨rfl,e⟩
  .rcases d with d|⟨rfl,d⟩
   .exact zr (UInt8.lt_trans e d)
   .exact zr e
  .rcases d with d|⟨rfl,d⟩
   .exact zr d
   .exact zu ⟨rfl,JZ x y z e d⟩
theorem J0 : ∀x y,Op.bytesLess x y=false->Op.bytesLess y x=false->x=y
 | [],[],_,_=>rfl
 | [],_::_,h,_=>by simp[Op.bytesLess]at h
 | _::_,[],_,h=>by simp[Op.bytesLess]at h
 | a::x,b::y,e,d=>by
  simp only[Op.bytesLess,uF,zM,Bool.and_eq_false_iff,xr]at *
  have c:a=b:=by
   apply UInt8.le_antisymm
   .exact UInt8.not_lt.1 d.1
   .exact UInt8.not_lt.1 e.1
  subst c;rw[J0 x y (e.2.resolve_left (by simp)) (d.2.resolve_left (by simp))]
def lexB (a b:ByteArray):Bool:=Op.bytesLess a.toList b.toList
theorem kY (h:a.toList=b.toList):a=b:=by rw[Lib.toList_data,Lib.toList_data]at h;cases a;cases b;simp only at h;rw[Array.toList_inj]at h;rw[h]
theorem Yc (a):lexB a a=false:=IG _
theorem Zr {c:ByteArray} (d:lexB a b=true) (e:lexB b c=true):lexB a c=true:=JZ _ _ _ d e
theorem Z5 (c:lexB a b=false) (d:lexB b a=false):a=b:=kY (J0 _ _ c d)
def cmpB (a b:ByteArray):Int:=if lexB a b then -1 else if a=b then 0 else 1
def rW (s:ByteArray):Bool:= !(s.toList==[])&&decide (s.size<=14)&&!(s.toList==[46])&&!(s.toList==[46,46])&&!(s.data.toList.contains 0)&&!(s.data.toList.contains 47)
def okE (x:En):Bool:=rW x.1&&decide (1<=x.2)&&decide (x.2<=32)
def rD (S:List En):List En->Int
 | []=>0
 | x::l=>if okE x=false then 3 else if S.any (fun y=>decide (y.1=x.1)) then 5 else rD (S++[x]) l
def sf (l:List En):Int:=if 32<l.length then 2 else rD [] l
theorem TC (l):∀S,(S.map (·.1)).Nodup->(rD S l=0↔(∀x∈l,okE x=true)/\((S++l).map (·.1)).Nodup):=by
 induction l with
 | nil=>intro S j;simpa[rD]using j
 | cons x l p=>
  intro S j;unfold rD;by_cases d:okE x=false
  .rw[ze d];refine⟨fun h=>zY h (by decide),fun h=>?_⟩;have:=h.1 x (by simp);rw[d]at this;cases this
  .rw[zb d];have i:okE x=true:=(by simpa using d);by_cases c:(S.any fun y=>decide (y.1=x.1))=true
   .rw[ze c];refine⟨fun h=>zY h (by decide),fun h=>?_⟩;obtain⟨y,g,n⟩:=wb.1 c;have f:y.1=x.1:=(by simpa using n);have m:=h.2;rw[yy,vf]at m;exact zY f (m.2.2 y.1 (zU.2 ⟨y,g,rfl⟩) x.1 (by simp))
   .rw[zb c,p (S++[x])]
    .rw[zP];simp only[tJ,yU,yD,forall_eq_or_imp];simp[i]
    .rw[yy,vf];refine⟨j,by simp,fun a o b k e=>c ?_⟩;obtain⟨y,g,rfl⟩:=zU.1 o;simp at k;rw[wb];exact⟨y,g,by simp[e,k]⟩
theorem rO (l):sf l=0↔l.length<=32/\(∀x∈l,okE x=true)/\(l.map (·.1)).Nodup:=by
 unfold sf;by_cases h:32<l.length
 .rw[ze h];exact⟨fun h=>zY h (by decide),fun a=>by omega⟩
 .rw[zb h,TC l [] (by simp)];simp;omega
theorem Iw (h:l.Perm m):sf l=0↔sf m=0:=by rw[rO,rO,h.length_eq,(h.map (·.1)).nodup_iff];simp only[h.mem_iff]
def pW (S:List En):Prop:=S.Pairwise fun a b=>lexB a.1 b.1=true
theorem Hw : ∀{S T},S.Perm T->pW S->pW T->S=T
 | [],T,h,_,_=>by simpa using h.symm
 | x::S,[],h,_,_=>by simp at h
 | x::S,y::T,h,c,d=>by
  unfold pW at c d;rw[wP]at c d;have e:x=y:=by
   have b:x∈y::T:=h.mem_iff.1 (by simp);have a:y∈x::S:=h.mem_iff.2 (by simp);rcases yD.1 b with b|b
   .exact b
   rcases yD.1 a with a|a
   .exact a.symm
   have f:=Zr (d.1 x b) (c.1 y a);rw[Yc]at f;cases f
  subst e;rw[Hw (S:=S) (T:=T) ((List.perm_cons x).1 h) c.2 d.2]
theorem Wv (h:S.Pairwise fun a b=>lexB b.1 a.1=false) (f:(S.map (·.1)).Nodup):pW S:=by
 induction S with
 | nil=>exact List.Pairwise.nil
 | cons x S d=>
  rw[wP]at h;rw[yF,vJ]at f;refine wP.2 ⟨fun y c=>?_,d h.2 f.2⟩;cases e:lexB x.1 y.1 with
  | true=>rfl
  | false=>exact zY (zU.2 ⟨y,c,(Z5 e (h.1 y c)).symm⟩) f.1
theorem pW.nodup (h:pW S):(S.map (·.1)).Nodup:=by unfold pW at h;rw[List.Nodup,xW];exact h.imp fun a b=>by rw[b,Yc]at a;cases a
def pQ (n:Nat):Nat->Nat->List Nat
 | 0,_=>[]
 | f+1,at_=>if at_<n then pQ n f (2*at_+1)++at_::pQ n f (2*at_+2) else []
theorem UN (n):∀f g at_,n<=at_+f->n<=at_+g->pQ n f at_=pQ n g at_
 | 0,0,_,_,_=>rfl
 | 0,g+1,at_,h,_=>by rw[pQ,pQ,zb (by omega)]
 | f+1,0,at_,_,h=>by rw[pQ,pQ,zb (by omega)]
 | f+1,g+1,at_,b,a=>by
  rw[pQ,pQ];by_cases h:at_<n
  .rw[ze h,ze h,UN n f g _ (by omega) (by omega),UN n f g (2*at_+2) (by omega) (by omega)]
  .rw[zb h,zb h]
def ino (n at_:Nat):List Nat:=pQ n n at_
theorem i8 (h:n<=at_):ino n at_=[]:=by
 unfold ino;cases n with
 | zero=>rfl
 | succ n=>rw[pQ,zb (by omega)]
theorem fB (h:at_<n):ino n at_=ino n (2*at_+1)++at_::ino n (2*at_+2):=by
 cases n with
 | zero=>omega
 | succ n=>
  show pQ (n+1) (n+1) at_=_;rw[pQ,ze h];unfold ino;rw[UN (n+1) n (n+1) (2*at_+1) (by omega) (by omega),UN (n+1) n (n+1) (2*at_+2) (by omega) (by omega)]
def inoOk (n:Nat):Bool:=decide (pQ n n 0).Nodup&&(pQ n n 0).length==n&&(pQ n n 0).all (· < n)
theorem Mg: (List.range 33).all inoOk=true:=by decide +kernel
theorem ZD (h:n<=32):(ino n 0).Nodup/\(ino n 0).length=n/\∀m∈ino n 0,m<n:=by have:=(yW.1 Mg) n (yH.2 (by omega));unfold inoOk at this;simp only[yL,xw,vx,yW]at this;exact⟨this.1.1,this.1.2,this.2⟩
def putE (D:List Int) (p:Nat×En):List Int:=(over D (16*p.1) (bI p.2.1)).set (16*p.1+14) p.2.2
def layF (D:List Int) (P:List (Nat×En)):List Int:=P.foldl putE D
theorem Le (D) (P Q):layF D (P++Q)=layF (layF D P) Q:=by unfold layF;rw[xG]
def rowE (x:En):List Int:=bI x.1++List.replicate (14-x.1.size) 0++[x.2,0]
def pm (D:List Int) (q:Nat):List Int:=(D.drop (16*q)).take 16
theorem K5 {E:List Int} {o:Nat} (h:o+E.length<=D.length):(over D o E).length=D.length:=by unfold over;rw[zm,zm,zj,yB];omega
theorem Rv (h:16*q+16<=D.length) (a:x.1.size<=14):(putE D (q,x)).length=D.length:=by unfold putE;rw[xK,K5];rw[ZF];show 16*q+x.1.size<=_;omega
theorem XC (h:16*q+16<=D.length) (g:x.1.size<=14) (j:Nat):(putE D (q,x))[j]?=if j=16*q+14 then some x.2 else if 16*q<=j/\j<16*q+x.1.size then (bI x.1)[j-16*q]? else D[j]? :=by
 have b:(bI x.1).length=x.1.size:=ZF _;unfold putE;rw[sP];by_cases a:j=16*q+14
 .rw[ze a.symm,ze a,ze];rw[K5 (by rw[b];omega)];omega
 .rw[zb (fun e=>a e.symm),zb a];unfold over;by_cases d:j<16*q
  .rw[zb (by omega),zX (by rw[zj];omega),zI,ze d]
  .have c:(D.take (16*q)).length=16*q:=(by rw[zj];omega);rw[zy (by rw[c];omega),c];by_cases f:j<16*q+x.1.size
   .rw[ze ⟨by omega,f⟩,zX (by rw[b];omega)]
   .rw[zb (by omega),zy (by rw[b];omega),yw,b]
    congr 1
    omega
theorem VG (D) (q i):(pm D q)[i]?=if i<16 then D[16*q+i]? else none:=by unfold pm;rw[zI,yw]
theorem Hv {m:Nat} (h:16*q+16<=D.length) (a:x.1.size<=14) (b:m≠q):pm (putE D (q,x)) m=pm D m:=by
 apply ww;intro i;rw[VG,VG];split
 .rw[XC h a,zb (by omega),zb (by omega)]
 .rfl
theorem LU (h:16*q+16<=D.length) (j:x.1.size<=14) (k:pm D q=List.replicate 16 0):pm (putE D (q,x)) q=rowE x:=by
 have a:(bI x.1).length=x.1.size:=ZF _;apply ww;intro i;rw[VG];have c:∀i,i<16->D[16*q+i]?=some 0:=fun i b=>by have:=zV (fun l=>l[i]?) k;simp only[VG,ze b]at this;rw[this,xf,ze b]
 unfold rowE;by_cases b:i<16
 .rw[ze b,XC h j];by_cases f:i=14
  .subst f;rw[ze rfl,zy (by simp[a];omega)];simp[a,show 14-(x.1.size+(14-x.1.size))=0 by omega]
  .rw[zb (by omega)];by_cases d:i<x.1.size
   .rw[ze ⟨by omega,by omega⟩,zP,zX (by rw[a];exact d)]
    congr 1
    omega
   .rw[zb (by omega),c i b];by_cases g:i<14
    .rw[zP,zy (by rw[a];omega),zX (by simp[a];omega),xf,ze (by rw[a];omega)]
    .rw[zy (by simp[a];omega)];have e:i=15:=(by omega);subst e;simp[a,show 15-(x.1.size+(14-x.1.size))=1 by omega]
 .rw[zb b,yj];simp[a];omega
theorem WK {n:Nat}:∀(P) (D),D.length=16*n->(∀p∈P,p.1<n/\p.2.1.size<=14)->(P.map (·.1)).Nodup->(∀p∈P,pm D p.1=List.replicate 16 0) ->
 (layF D P).length=16*n/\(∀p∈P,pm (layF D P) p.1=rowE p.2)/\(∀q,q∉P.map (·.1)->pm (layF D P) q=pm D q)
 | [],D,g,_,_,_=>⟨g,by simp,fun q _=>rfl⟩
 | (q,x)::P,D,g,hP,hn,hz=>by
  rw[yF,vJ]at hn;have b:=hP (q,x) (by simp);have c:16*q+16<=D.length:=by have:=b.1;simp at this;omega
  have f:∀p∈P,p.1≠q:=fun p a e=>hn.1 (zU.2 ⟨p,a,e⟩);obtain⟨i,j,h⟩:=WK P (putE D (q,x)) (by rw[Rv c b.2];exact g) (fun p a=>hP p (by simp[a])) hn.2 (fun p a=>by rw[Hv c b.2 (f p a)];exact hz p (by simp[a]));refine⟨i,fun p a=>?_,fun m d=>?_⟩
  .rcases yD.1 a with rfl|a
   .show pm (layF (putE D (q,x)) P) q=_;rw[h q hn.1];exact LU c b.2 (hz (q,x) (by simp))
   .exact j p a
  .rw[yF,yD,not_or]at d;show pm (layF (putE D (q,x)) P) m=_;rw[h m d.2,Hv c b.2 d.1]
def layS (S:List En):List Int:=layF (List.replicate (16*S.length) 0) ((ino S.length 0).zip S)
def rdN (D:List Int) (q:Nat):ByteArray:=⟨(Lib.trimRightB (sE ((D.drop (16*q)).take 14)).data.toList 0).toArray⟩
def rdE (D:List Int) (q:Nat):En:=(rdN D q,D.getD (16*q+14) 0)
theorem Pa (h:q<n):pm (List.replicate (16*n) 0) q=List.replicate 16 0:=by
 unfold pm;rw[List.drop_replicate,List.take_replicate]
 congr 1
 omega
theorem WJ (i:S.length<=32) (j:∀x∈S,x.1.size<=14):(layS S).length=16*S.length/\∀p∈(ino S.length 0).zip S,pm (layS S) p.1=rowE p.2:=by
 obtain⟨g,h,c⟩:=ZD i;have e:((ino S.length 0).zip S).map (·.1)=ino S.length 0:=by rw[List.map_fst_zip];omega
 obtain⟨d,f,_⟩:=WK (n:=S.length) ((ino S.length 0).zip S) (List.replicate (16*S.length) 0) (by simp) (fun p b=>by have a:=(kw b);exact⟨c _ a.1,j _ a.2⟩) (by rw[e];exact g) (fun p b=>Pa (c _ (kw b).1));exact⟨d,f⟩
theorem Xc (ns):(sE ns).data.toList=ns.map fun n=>UInt8.ofNat n.toNat:=by
 have b:∀(l:List Int) (r:ByteArray),(l.foldl (fun r n=>r.push (UInt8.ofNat n.toNat)) r).data.toList=r.data.toList++l.map fun n=>UInt8.ofNat n.toNat:=by
  intro l
  induction l with
  | nil=>intro r;simp
  | cons a l c=>intro r;rw[wl,c];simp[ByteArray.push]
 simpa[sE]using b ns ByteArray.empty
theorem SG (s):(bI s).map (fun n=>UInt8.ofNat n.toNat)=s.data.toList:=by
 unfold bI;rw[vr]
 conv=>rhs;rw[<-List.map_id s.data.toList]
 refine xY fun b _=>?_;simp
theorem Nv (l) (k) (h:∀b∈l,b≠0):Lib.trimRightB (l++List.replicate k 0) 0=l:=by
 unfold Lib.trimRightB;rw[List.reverse_append,List.reverse_replicate,List.dropWhile_append_of_pos (fun a c=>by rw[uX]at c;simp[c.2])];have:l.reverse.dropWhile (·==0)=l.reverse:=by
  cases d:l.reverse with
  | nil=>rfl
  | cons b r=>
   have e:b∈l:=(by rw[<-mX,d];simp);have:=h b e;rw[List.dropWhile_cons_of_neg (by simpa using this)]
 rw[this,List.reverse_reverse]
theorem jF (h:okE x=true):rW x.1=true/\1<=x.2/\x.2<=32:=by unfold okE at h;simp only[yL,xw]at h;exact⟨h.1.1,h.1.2,h.2⟩
theorem Ut {s:ByteArray} (h:rW s=true):s.size<=14/\∀b∈s.data.toList,b≠0:=by unfold rW at h;simp only[yL,xw,vZ,List.contains_eq_mem,zM]at h;exact⟨h.1.1.1.1.2,fun b a e=>h.1.2 (by rw[<-e];exact a)⟩
theorem Tz (h:pm D q=rowE x) (k:okE x=true):rdE D q=x:=by
 obtain⟨d,g,j⟩:=jF k;obtain⟨i,e⟩:=Ut d;have a:(bI x.1).length=x.1.size:=ZF _;have b:(D.drop (16*q)).take 14=bI x.1++List.replicate (14-x.1.size) 0:=by
  have:(D.drop (16*q)).take 14=(pm D q).take 14:=by unfold pm;rw[vj];rfl
  rw[this,h];unfold rowE;rw[yT (by simp[a];omega),zv (by simp[a];omega)]
 have f:D.getD (16*q+14) 0=x.2:=by have:=zV (fun l=>l[14]?) h;simp only[VG]at this;rw[ze (by omega)]at this;rw[zi,this];unfold rowE;rw[zy (by simp[a];omega)];simp[a,show 14-(x.1.size+(14-x.1.size))=0 by omega]
 unfold rdE;rw[f];refine Prod.ext ?_ rfl;show rdN D q=x.1;unfold rdN;rw[Xc,b,yy,SG];have c:(List.replicate (14-x.1.size) (0:Int)).map (fun n=>UInt8.ofNat n.toNat)=List.replicate (14-x.1.size) 0:=by simp
 rw[c,Nv _ _ e]
theorem Rs (k:S.length<=32) (l:∀x∈S,okE x=true):(ino S.length 0).map (rdE (layS S))=S:=by
 obtain⟨h,d,j⟩:=ZD k;obtain⟨_,c⟩:=WJ k (fun x f=>(Ut (jF (l x f)).1).1);refine tI (by simp[d]) fun i e a=>?_;rw[uO];have b:i<(ino S.length 0).length:=by simpa using e
 have g:((ino S.length 0)[i],S[i])∈(ino S.length 0).zip S:=by rw[vg];exact⟨i,by rw[List.getElem?_zip_eq_some];simp[b,a]⟩
 exact Tz (c _ g) (l _ (zx a))
theorem R3 (b:S.length<=32) (c:∀x∈S,okE x=true):(layS S).length=16*S.length:=(WJ b (fun x a=>(Ut (jF (c x a)).1).1)).1
def leE (a b:En):Bool:= !lexB b.1 a.1
def o9 (l:List En):List En:=l.mergeSort leE
theorem nA (l):(o9 l).Perm l:=sa _ _
theorem Oj (a b c) (e:leE a b=true) (f:leE b c=true):leE a c=true:=by
 unfold leE at *
 simp only[vZ]at *
 cases h:lexB c.1 a.1 with
 | false=>rfl
 | true=>
  cases d:lexB b.1 c.1 with
  | true=>rw[Zr d h]at e;cases e
  | false=>rw[Z5 f d]at h;rw[e]at h;cases h
theorem Ok (a b):(leE a b||leE b a)=true:=by
 unfold leE;cases h:lexB b.1 a.1 with
 | false=>rfl
 | true=>
  cases c:lexB a.1 b.1 with
  | false=>rfl
  | true=>have:=Zr h c;rw[Yc]at this;cases this
theorem UY (h:(l.map (·.1)).Nodup):pW (o9 l):=by have d:(o9 l).Pairwise fun a b=>leE a b=true:=List.pairwise_mergeSort Oj Ok l;refine Wv (d.imp fun c=>by unfold leE at c;simpa using c) ?_;exact ((nA l).map (·.1)).nodup_iff.2 h
theorem Xt {T:List En} (a:T.Perm l) (b:pW T):T=o9 l:=
 Hw (a.trans (nA l).symm) b (UY ((a.map (·.1)).nodup_iff.1 b.nodup))
theorem KA (l):(o9 l).length=l.length:=(nA l).length_eq
theorem MW (a:l.Perm m) (h:(l.map (·.1)).Nodup):o9 l=o9 m:=Xt ((nA l).trans a) (UY h)
theorem V8 (h:sf l=0):(o9 l).length<=32/\(∀x∈o9 l,okE x=true)/\pW (o9 l):=by have a:=(rO l).1 h;exact⟨by rw[KA];exact a.1,fun x b=>a.2.1 x ((nA l).mem_iff.1 b),UY a.2.2⟩
def layD (l:List En):List Int:=layS (o9 l)
theorem ZV (h:sf l=0):(layD l).length=16*l.length:=by obtain⟨a,b,_⟩:=V8 h;unfold layD;rw[R3 a b,KA]
theorem Ol (a:l.Perm m) (h:sf l=0):layD l=layD m:=by unfold layD;rw[MW a ((rO l).1 h).2.2]
def outD (D:List Int):List En:=(ino (D.length / 16) 0).map (rdE D)
def sU (D:List Int):Bool:=decide (D.length%16=0)&&decide (D.length<=512)&&decide (sf (outD D)=0)&&decide (layD (outD D)=D)
theorem nB (D):sU D=true↔D.length%16=0/\D.length<=512/\sf (outD D)=0/\layD (outD D)=D:=by unfold sU;simp only[yL,xw];constructor<;>(intro h;simp[h])
theorem fv (h:sf l=0):outD (layD l)=o9 l:=by obtain⟨a,b,_⟩:=V8 h;unfold outD;rw[ZV h,show 16*l.length / 16=l.length by omega,<-KA l];exact Rs a b
theorem XO (h:sf l=0):sU (layD l)=true:=by obtain⟨a,b,d⟩:=V8 h;have c:=(rO l).1 h;rw[nB,fv h,ZV h];refine⟨by omega,by omega,(Iw (nA l)).2 h,?_⟩;exact Ol (nA l) ((Iw (nA l)).2 h)
theorem mP (h:sU D=true):pW (outD D)/\sf (outD D)=0/\(outD D).length=D.length / 16/\layD (outD D)=D:=by obtain⟨f,e,a,c⟩:=(nB D).1 h;have d:=(rO _).1 a;have b:=fv a;rw[c]at b;refine⟨by rw[b];exact UY d.2.2,a,?_,c⟩;unfold outD;rw[yp,(ZD (by omega)).2.1]
structure FInv (D:List Int) (n:Nat) (name:ByteArray) (q k:Nat):Prop where
 seg:∃A B,ino n 0=A++ino n q++B/\(∀m∈A,lexB (rdE D m).1 name=true)/\(∀m∈B,lexB name (rdE D m).1=true)
 pow:2 ^ k<=q+1
 few:k=0\/2 ^ (k-1)<=n
theorem FInv.start (D) (n) (name):FInv D n name 0 0:=
 ⟨⟨[],[],by simp,by simp,by simp⟩,by simp,zr rfl⟩
section
variable {D : List Int} {n q k : Nat} {name : ByteArray}
theorem FInv.mid (h:FInv D n name q k) (d:q<n):∃A B,ino n 0=(A++ino n (2*q+1))++q::(ino n (2*q+2)++B)/\(∀m∈A,lexB (rdE D m).1 name=true)/\(∀m∈B,lexB name (rdE D m).1=true):=by obtain⟨A,B,b,a,c⟩:=h.seg;exact⟨A,B,by rw[b,fB d];simp,a,c⟩
theorem FInv.left (h:FInv D n name q k) (i:q<n) (g:pW ((ino n 0).map (rdE D))) (f:lexB name (rdE D q).1=true):FInv D n name (2*q+1) (k+1):=by
 obtain⟨A,B,b,c,e⟩:=h.mid i;have d:=h.pow;refine⟨⟨A,q::(ino n (2*q+2)++B),by rw[b],c,fun m a=>?_⟩,by rw[Nat.pow_succ];omega,zu (by simp;omega)⟩;rcases yD.1 a with rfl|a
 .exact f
 .unfold pW at g;rw[b,yy,tR,yF,wP]at g;exact Zr f (g.2.1.1 _ (zU.2 ⟨m,a,rfl⟩))
theorem FInv.right (h:FInv D n name q k) (i:q<n) (g:pW ((ino n 0).map (rdE D))) (f:lexB (rdE D q).1 name=true):FInv D n name (2*q+2) (k+1):=by
 obtain⟨A,B,b,e,c⟩:=h.mid i;have d:=h.pow;refine⟨⟨A++ino n (2*q+1)++[q],B,by rw[b];simp,fun m a=>?_,c⟩,by rw[Nat.pow_succ];omega,zu (by simp;omega)⟩;rw[yo,xt]at a;rcases a with a|rfl
 .unfold pW at g;rw[b,yy,tR]at g;exact Zr (g.2.2 _ (zU.2 ⟨m,a,rfl⟩) _ (by simp)) f
 .exact f
theorem FInv.found (h:FInv D n name q k) (b:q<n) (c:name=(rdE D q).1):∃x∈(ino n 0).map (rdE D),x.1=name/\x.2=(rdE D q).2:=by obtain⟨A,B,a,_,_⟩:=h.mid b;exact⟨rdE D q,zU.2 ⟨q,by rw[a];simp,rfl⟩,c.symm,rfl⟩
theorem FInv.none (h:FInv D n name q k) (g:n<=q):∀x∈(ino n 0).map (rdE D),x.1≠name:=by
 obtain⟨A,B,d,c,e⟩:=h.seg;intro x f b;obtain⟨m,a,rfl⟩:=zU.1 f;rw[d,i8 g,yX,yo]at a;rcases a with a|a
 .have:=c m a;rw[b,Yc]at this;cases this
 .have:=e m a;rw[b,Yc]at this;cases this
end
end Go.Proofs.YtmanoiagchpelaaGreatDoor
namespace Go.Proofs.YtmanoiagchpelaaGreatDoor
open Go.Proofs.Tryz Go.RowKit Go.Maps
open Go (World.grownBy)
variable {cnt r:Nat} {done:List (Int×Value)} {k x:Int} {z:Value} {α:Type}
def InZ (x:Int):Prop:= -9223372036854775808<=x/\x<=9223372036854775807
def putZ {α:Type}:List (Int×α)->Int->α->List (Int×α)
 | [],k,v=>[(k,v)]
 | y::r,k,v=>if k<y.1 then (k,v)::y::r else if k=y.1 then (k,v)::r else y::putZ r k v
def getZ {α:Type}:List (Int×α)->Int->Option α
 | [],_=>none
 | y::r,k=>if y.1=k then some y.2 else getZ r k
def delZ {α:Type} (l:List (Int×α)) (k:Int):List (Int×α):=l.filter fun y=> !decide (y.1=k)
def so {α:Type} (l:List (Int×α)):Prop:=l.Pairwise fun a b=>a.1<b.1
def hasZ {α} (l:List (Int×α)) (k:Int):Bool:=(getZ l k).isSome
theorem so.tail {y:Int×α} {r:List (Int×α)} (h:so (y::r)):so r:=(wP.1 h).2
theorem so.head {y:Int×α} {r:List (Int×α)} (h:so (y::r)):∀z∈r,y.1<z.1:=(wP.1 h).1
theorem mt {α:Type} {k:Int} {v:α}:∀{l} {z},z∈putZ l k v->z=(k,v)\/z∈l
 | [],z,h=>by simpa[putZ]using h
 | y::r,z,h=>by
  unfold putZ at h;split at h
  .rcases yD.1 h with h|h
   .exact zr h
   .exact zu h
  .split at h
   .rcases yD.1 h with h|h
    .exact zr h
    .exact zu (yZ _ h)
   .rcases yD.1 h with h|h
    .exact zu (h▸xn)
    .rcases mt h with h|h
     .exact zr h
     .exact zu (yZ _ h)
theorem ZZ {α:Type} (k) (v):∀{l:List (Int×α)},so l->so (putZ l k v)
 | [],_=>wP.2 ⟨by simp,List.Pairwise.nil⟩
 | y::r,h=>by
  unfold putZ;split
  .rename_i b;refine wP.2 ⟨fun z a=>?_,h⟩;rcases yD.1 a with rfl|a
   .exact b
   .have:=h.head z a;show k<z.1;omega
  .split
   .rename_i b;exact wP.2 ⟨fun z a=>by have:=h.head z a;show k<z.1;omega,h.tail⟩
   .rename_i d c;refine wP.2 ⟨fun z a=>?_,ZZ k v h.tail⟩;rcases mt a with rfl|a
    .show y.1<k;omega
    .exact h.head z a
theorem Vb (k) {l:List (Int×α)} (h:so l):so (delZ l k):=h.filter _
theorem Wc {l:List (Int×α)} {z:Int×α} (h:z∈delZ l k):z∈l:=(vu.1 h).1
theorem oy {α:Type} (k) (v):∀(l:List (Int×α)),(putZ l k v).length<=l.length+1
 | []=>by simp[putZ]
 | y::r=>by
  unfold putZ;have:=oy k v r;split
  .simp
  .split
   .simp
   .simp only[yx];omega
theorem nu {α:Type} {k:Int} {v:α}:∀{l},getZ l k=some v->(k,v)∈l
 | [],h=>by simp[getZ]at h
 | y::r,h=>by
  unfold getZ at h;split at h
  .rename_i e;cases h;subst e;exact xn
  .exact yZ _ (nu h)
theorem mQ {α:Type} {k:Int} {v:α}:∀{l},so l->(k,v)∈l->getZ l k=some v
 | y::r,a,h=>by
  unfold getZ;rcases yD.1 h with h|h
  .subst h;rw[ze rfl]
  .have:=a.head _ h;rw[zb (by intro e;simp only[e]at this;omega)];exact mQ a.tail h
theorem Zx {α:Type} (k) (v):∀(l:List (Int×α)),getZ (putZ l k v) k=some v
 | []=>by simp[putZ,getZ]
 | y::r=>by
  unfold putZ;split
  .simp[getZ]
  .split
   .simp[getZ]
   .rename_i b a;rw[getZ,zb (fun e=>a e.symm)];exact Zx k v r
theorem mR {α:Type} {k j:Int} (v) (c:j≠k):∀(l:List (Int×α)),getZ (putZ l k v) j=getZ l j
 | []=>by simp[putZ,getZ,yA c]
 | y::r=>by
  unfold putZ;split
  .simp[getZ,yA c]
  .split
   .rename_i a b;rw[getZ,getZ,zb (yA c),zb (by omega)]
   .rw[getZ,getZ,mR v c r]
def qR (v:Value):Option (DataW Value×List MemPlace):=some (.held v,[])
def encZ (x:Int×Value):Lit×DataW Value:=(.int .i64 x.1,.held x.2)
def MapL (P:Program) (K:TypeId) (w:World) (b:Nat) (l:List (Int×Value)):Prop:=
 w.ownsMap P K qR b l.length (.map (l.map encZ))/\so l/\(∀x∈l,InZ x.1)
section
variable {P : Program} {K T E : TypeId} {w w' : World} {b : Nat} {l : List (Int×Value)}
theorem wf_z (h:InZ x):(Lit.int .i64 x).wf=true:=WalkArith.wf_i64 ⟨h.1,h.2⟩
theorem kH (a:P.underlying K=some (.int .i64)) (h:InZ x):keyOf P K (.int .i64 x)=some (.int .i64 x):=keyOf_int_mk a (wf_z h)
theorem MapL.lt (h:MapL P K w b l):b<w.heap.size:=h.1.lt
theorem MapL.made (w:World):MapL P K (w.alloc (.map #[] 0)) w.heap.size []:=⟨oE _ _ _ _,List.Pairwise.nil,by simp⟩
abbrev tH:=@MapL.made
theorem MapL.of_block (h:MapL P K w b l) (g:w'.heap[b]?=w.heap[b]?):MapL P K w' b l:=by obtain⟨⟨e,a,d,c⟩,f⟩:=h;exact⟨⟨e,a,g.trans d,c⟩,f⟩
theorem kQ (x k):(Lit.int .i64 x).sameKey (.int .i64 k)=decide (x=k):=by simp[Lit.sameKey]
theorem IQ (l) (k):(l.map encZ).filter (fun p=> !p.1.sameKey (.int .i64 k))=(delZ l k).map encZ:=by
 unfold delZ;rw[List.filter_map]
 congr 1
 apply List.filter_congr;intro x _;show (!(Lit.int .i64 x.1).sameKey (.int .i64 k))=_;rw[kQ]
theorem II (k) (v):∀{l},so l->DataW.insert (encZ (k,v)) ((delZ l k).map encZ)=(putZ l k v).map encZ
 | [],_=>rfl
 | y::r,h=>by
  have f:=II k v h.tail;have a:=h.head;unfold delZ at *
  rw[vo,putZ];by_cases b:k<y.1
  .rw[ze b,ze (by simp;omega)];have e:r.filter (fun y=> !decide (y.1=k))=r:=(by apply uQ.2;intro z d;have:=a z d;simp;omega);rw[e,yF,DataW.insert,ze (by show decide (k<y.1)=true;simpa using b)];rfl
  .rw[zb b];by_cases c:k=y.1
   .rw[ze c,zb (by simp[c])];have e:r.filter (fun y=> !decide (y.1=k))=r:=(by apply uQ.2;intro z d;have:=a z d;simp;omega);rw[e];cases r with
    | nil=>rfl
    | cons z r=>
     have:=a z xn;rw[yF,DataW.insert,ze (by show decide (k<z.1)=true;simp;omega)];rfl
   .rw[zb c,ze (by simp;omega),yF,DataW.insert,zb (by show ¬decide (k<y.1)=true;simpa using b),f];rfl
theorem jr (k) (zd):∀(l),(DataW.map (l.map encZ)).atKey (.int .i64 k) zd=((getZ l k).map DataW.held).getD zd
 | []=>rfl
 | y::r=>by
  have b:=jr k zd r;unfold DataW.atKey at b ⊢;simp only[yF,List.find?_cons]at b ⊢;have e:(encZ y).1.sameKey (.int .i64 k)=decide (y.1=k):=kQ _ _;rw[e,getZ];by_cases a:y.1=k
  .rw[ze a,ya a];rfl
  .rw[zb a,zz a];exact b
theorem fC (k):∀(l),Maps.has (DataW.map (l.map encZ)) (.int .i64 k)=hasZ l k
 | []=>rfl
 | y::r=>by
  have b:=fC k r;unfold hasZ at b ⊢;rw[has_eq]at b ⊢;simp only[yF,List.any_cons];rw[b];show ((Lit.int .i64 y.1).sameKey (.int .i64 k)||_)=_;rw[kQ,getZ];by_cases a:y.1=k
  .rw[ze a,ya a];rfl
  .rw[zb a,zz a];rfl
theorem Wi {v:Value} {x:Value} {ps:List MemPlace} (h:qR v=some (.held x,ps)):v=x:=by unfold qR at h;simp only[zw,Prod.mk.injEq,DataW.held.injEq]at h;exact h.1
theorem MapL.look (h:MapL P K w b l) (f:P.underlying K=some (.int .i64)) (g:P.underlying T=some (.map K E)) (i:(zeroValue E).run P w=.ok z w) (j:InZ k):
 (Instr.lookup T (.map (some b)) (.int .i64 k) false).run P w=.ok ((getZ l k).getD z) w:=by
 obtain⟨v,d,c,a⟩:=h.1.lookup (int_keyed f) g i (zd:=.held z) (zp:=[]) rfl (kH f j);rw[jr]at a;have e:((getZ l k).map DataW.held).getD (.held z)=.held ((getZ l k).getD z):=by cases getZ l k<;>rfl
 rw[e]at a;rw[c,Wi a]
theorem MapL.look_ok (h:MapL P K w b l) (f:P.underlying K=some (.int .i64)) (g:P.underlying T=some (.map K E)) (i:(zeroValue E).run P w=.ok z w) (j:InZ k):
 (Instr.lookup T (.map (some b)) (.int .i64 k) true).run P w=.ok (.tuple #[(getZ l k).getD z,.bool (hasZ l k)]) w:=by
 obtain⟨v,d,c,a⟩:=h.1.look_ok (int_keyed f) g i (zd:=.held z) (zp:=[]) rfl (kH f j);rw[jr]at a;have e:((getZ l k).map DataW.held).getD (.held z)=.held ((getZ l k).getD z):=by cases getZ l k<;>rfl
 rw[e]at a;rw[c,Wi a,fC]
theorem MapL.len (h:MapL P K w b l) (a:P.underlying T=some (.map K E)) (ty):(Builtin.len_ #[T] ty #[.map (some b)]).run P w=.ok (.int .i64 l.length) w:=by rw[h.1.len a ty];simp[Maps.size]
theorem MapL.shrink {n:Nat} (h:w.ownsMap P K qR b n (.map (l.map encZ))):w.ownsMap P K qR b l.length (.map (l.map encZ)):=by
 obtain⟨c,a,e,F,f,d⟩:=h;refine⟨c,a,e,F,?_,d⟩;have:l.length=c.size:=by have:=zV Maps.size d;simpa[Maps.size,length_sorted]using this
 omega
theorem MapL.store (h:MapL P K w b l) (i:P.underlying K=some (.int .i64)) (m:P.underlying T=some (.map K E)) (o:l.length<1000000) (j:InZ k) (v):
 ∃w',(Instr.mapUpdate T (.map (some b)) (.int .i64 k) v).run P w=.ok () w'/\MapL P K w' b (putZ l k v)/\w.mapTurned w' b:=by
 obtain⟨w',f,c,g⟩:=h.1.store (int_keyed i) m (by unfold maxLen;omega) (kH i j) (d:=.held v) (ps:=[]) (val:=v) rfl;refine⟨w',f,⟨MapL.shrink (n:=l.length+1) ?_,ZZ k v h.2.1,fun x a=>?_⟩,g⟩
 .have e:(DataW.map (l.map encZ)).put (.int .i64 k) (.held v)=.map ((putZ l k v).map encZ):=by show DataW.map (DataW.insert (encZ (k,v)) ((l.map encZ).filter fun p=> !p.1.sameKey (.int .i64 k)))=_;rw[IQ,II k v h.2.1]
  rw[e]at c;exact c
 .rcases mt a with rfl|a
  .exact j
  .exact h.2.2 x a
theorem MapL.drop (h:MapL P K w b l) (g:P.underlying K=some (.int .i64)) (i:P.underlying T=some (.map K E)) (j:InZ k) (ty):
 ∃w',(Builtin.delete_ #[T,K] ty #[.map (some b),k]).run P w=.ok (.tuple #[]) w'/\MapL P K w' b (delZ l k)/\w.mapTurned w' b:=by
 obtain⟨w',c,a,d⟩:=h.1.drop (int_keyed g) i (kH g j) ty;refine⟨w',c,⟨MapL.shrink (n:=l.length) ?_,Vb k h.2.1,fun x f=>h.2.2 x (Wc f)⟩,d⟩;have e:(DataW.map (l.map encZ)).del (.int .i64 k)=.map ((delZ l k).map encZ):=by show DataW.map ((l.map encZ).filter fun p=> !p.1.sameKey (.int .i64 k))=_;rw[IQ]
 rw[e]at a;exact a
def qs (P:Program) (K:TypeId) (w:World) (b r:Nat) (l done:List (Int×Value)) (cnt:Nat):Prop:=
 so l/\(∀x∈l,InZ x.1)/\(done.map (·.1)).Nodup/\(∀x∈done,x∈l)/\∃left,w.ranges P K qR b r l.length (.map (l.map encZ)) left cnt/\∀x,InZ x->left (.int .i64 x)=(hasZ l x&&!(done.map (·.1)).contains x)
theorem qs.map (h:qs P K w b r l done cnt):MapL P K w b l:=by obtain⟨d,c,_,_,a,e,_⟩:=h;exact⟨e.owns,d,c⟩
theorem qs.lt (h:qs P K w b r l done cnt):r<w.heap.size:=by obtain⟨e,d,_,_,a,c,_⟩:=h;exact c.lt
theorem qs.left_eq (h:qs P K w b r l done cnt):w.rangeLeft b r=cnt:=by obtain⟨e,d,_,_,a,c,_⟩:=h;exact c.left_eq
theorem qs.of_block (h:qs P K w b r l done cnt) (v:w'.heap[b]?=w.heap[b]?) (x:w'.heap[r]?=w.heap[r]?):qs P K w' b r l done cnt:=by obtain⟨m,i,o,j,e,⟨n,c,a,d,s,k,t,p,f,u,g⟩,q⟩:=h;exact⟨m,i,o,j,e,⟨n,c,a,d,s,v.trans k,t,p,f,x.trans u,g⟩,q⟩
theorem jS : ∀{xs ys:List Int},xs.Nodup->xs ⊆ ys->xs.length<=ys.length
 | [],_,_,_=>ye _
 | x::xs,ys,h,a=>by obtain⟨g,f⟩:=vJ.1 h;have b:=a xn;have d:=jS (ys:=ys.erase x) f (fun z c=>(List.mem_erase_of_ne (fun e:z=x=>g (e▸c))).2 (a (yZ _ c)));rw[List.length_erase_of_mem b]at d;have  :=rT b;simp only[yx];omega
theorem N4 {l:List (Int×Value)} (q:so l) (s:(done.map (·.1)).Nodup) (r:∀x∈done,x∈l) (t:∀x∈l,x.1∈done.map (·.1)):done.Perm l:=by
 have o:done.Nodup:=List.Pairwise.of_map _ (fun a b d e=>d (by rw[e])) s;have p:l.Nodup:=q.imp fun h e=>by rw[e]at h;omega
 refine (ic o p).2 fun a=>⟨r a,fun g=>?_⟩;obtain⟨c,i,e⟩:=zU.1 (t a g);have f:=r c i;have m:=mQ q (k:=a.1) (v:=a.2) g;have j:=mQ q (k:=c.1) (v:=c.2) f;rw[e,m]at j;have n:=r8 j;have  :=Prod.ext e n.symm;exact this▸i
end
section
variable {P : Program} (w : World) {ops : Array Oper} {rest : List Oper} {o : Oper} {a : Act} {Q : Exit->Act->World->Prop}
theorem U7 (j:o.guard=none) (m) (t) (g:o.op=Op.range t m) (K E) (i:P.underlying K=some (.int .i64)) (k:P.underlying t=some (.map K E)) (b) (l)
 (n:a.eval m=.map (some b)) (h:MapL P K w b l)
 (p:∀w',qs P K w' b w l [] l.length->w.grownBy w' none->w'.heap.size=w.heap.size+1->wpList P ops Q rest (a.put o.dst (w.heap.size,())) w'):
 wpList P ops Q (o::rest) a w:=by
 refine wpList_range_own w j m t g K E (int_keyed i) k qR b l.length (.map (l.map encZ)) n h.1 fun w' d c f=>p w' ⟨h.2.1,h.2.2,by simp,by simp,Maps.has (DataW.map (l.map encZ)),?_,fun x _=>?_⟩ c f
 .have e:Maps.size (DataW.map (l.map encZ))=l.length:=by simp[Maps.size]
  rw[e]at d;exact d
 .rw[fC];simp
theorem UZ (hg:o.guard=none) (it) (af:o.op=Op.next it false) (K) (aa:P.underlying K=some (.int .i64)) (b r) (l done) (cnt)
 (ag:a.eval it=.pointer (some ⟨r,0,none⟩)) (h:qs P K w b r l done cnt)
 (ab:done.Perm l->wpList P ops Q rest (a.put o.dst (.tuple #[.bool false])) w)
 (ad:∀(x) (c) (w') (cnt'),InZ x->(x,c)∈l->x∉done.map (·.1)->done.length<l.length->qs P K w' b r l (done++[(x,c)]) cnt'->cnt'<cnt ->
  w.grownBy w' (some r)->w'.heap.size=w.heap.size->(Instr.entry (r,())).run P w'=.ok (.tuple #[x,c]) w'->wpList P ops Q rest (a.put o.dst (.tuple #[.bool true,x,c])) w'):
 wpList P ops Q (o::rest) a w:=by
 obtain⟨G,T,N,F,i,X,R⟩:=h;refine wpList_next_ranges (α:=Int) (β:=Value) w hg it af K (int_keyed aa) qR (Value.int .i64) id (fun Z kl W=>by obtain⟨x,rfl,_⟩:=su aa W;exact⟨x,rfl⟩) (fun v _ _=>⟨v,rfl⟩) b r l.length _ i cnt ag X (fun _ C=>ab ?_) ?_
 .refine N4 G N F fun x A=>?_;have e:=C (.int .i64 x.1);rw[R x.1 (T x A)]at e;have hg:hasZ l x.1=true:=by unfold hasZ;rw[mQ G (k:=x.1) (v:=x.2) A];rfl
  rw[hg]at e;simpa using e
 .intro x c kl y w' cnt' t O U E H D M J I;obtain⟨x',V,rfl,j⟩:=su aa t;cases V;have A:InZ x:=by simp only[Lit.wf,yL,xw]at j;have e1:IntKind.i64.min = -9223372036854775808:=rfl;have Y:IntKind.i64.max=9223372036854775807:=rfl;rw[e1,Y]at j;exact j
  have C:=R x A;rw[O]at C;have f:hasZ l x=true/\x∉done.map (·.1):=by have:=C.symm;simp only[yL,vZ,List.contains_eq_mem,zM]at this;exact this
  obtain⟨v,s⟩:∃v,getZ l x=some v:=vi.1 f.1;have hc:v=c:=by have:=E (.held c);rw[jr,s]at this;unfold qR at U;cases U;simpa using this
  subst hc;have d:=nu s;have u:done.length<l.length:=by
   have B:(done.map (·.1)++[x]).Nodup:=vf.2 ⟨N,by simp,fun a S b p e=>f.2 (by simp at p;rw[<-p,<-e];exact S)⟩;have L:(done.map (·.1)++[x]) ⊆ l.map (·.1):=fun z g=>by
    rcases yo.1 g with g|g
    .obtain⟨y,hy,rfl⟩:=zU.1 g;exact zU.2 ⟨y,F y hy,rfl⟩
    .simp at g;subst g;exact zU.2 ⟨_,d,rfl⟩
   have:=jS B L;simp at this;omega
  refine ad x v w' cnt' A d f.2 u ⟨G,T,?_,?_,_,H,fun z g=>?_⟩ D M J I
  .rw[yy];exact vf.2 ⟨N,by simp,fun a S b p e=>f.2 (by simp at p;rw[<-p,<-e];exact S)⟩
  .intro q n;rcases yo.1 n with n|n
   .exact F q n
   .simp at n;subst n;exact d
  .show (i (.int .i64 z)&&!(Lit.int .i64 z).sameKey (.int .i64 x))=_;rw[R z g,kQ];by_cases m:z=x
   .subst m;simp
   .have:((done++[(x,v)]).map (·.1)).contains z=(done.map (·.1)).contains z:=(by simp[m]);rw[this,zz m];simp
theorem Jy (n:o.guard=none) (m x v) (t) (i:o.op=Op.mapUpdate t m x v)
 (K E) (j:P.underlying K=some (.int .i64)) (p:P.underlying t=some (.map K E)) (b) (l) (k) (val)
 (q:a.eval m=.map (some b)) (h:MapL P K w b l) (r:l.length<1000000) (s:a.eval x=.int .i64 k) (u:a.eval v=val) (y:InZ k)
 (z:∀w',MapL P K w' b (putZ l k val)->w.mapTurned w' b->wpList P ops Q rest (a.put o.dst undef) w'):
 wpList P ops Q (o::rest) a w:=by
 refine tf n fun g d=>?_;obtain⟨w',c,f,e⟩:=h.store j p r y val;unfold Oper.wp;simp[execOp,i,q,s,u,c,Result.andThen];exact d _ _ (z w' f e)
theorem GA (n:o.guard=none) (m x) (t K) (i:o.op=Op.call {callee:=Callee.builtin Builtin.delete,args:=#[m,x],argTypes:=#[t,K]})
 (E) (j:P.underlying K=some (.int .i64)) (p:P.underlying t=some (.map K E)) (b) (l) (k)
 (q:a.eval m=.map (some b)) (h:MapL P K w b l) (r:a.eval x=.int .i64 k) (s:InZ k)
 (u:∀w',MapL P K w' b (delZ l k)->w.mapTurned w' b->wpList P ops Q rest (a.put o.dst (.tuple #[])) w'):
 wpList P ops Q (o::rest) a w:=by
 refine tf n fun g d=>?_;obtain⟨w',c,f,e⟩:=h.drop j p s o.type;unfold Oper.wp;simp[execOp,i,resolve,invoke,builtin,q,r,c,Result.andThen];exact d _ _ (u w' f e)
end
end Go.Proofs.YtmanoiagchpelaaGreatDoor
namespace Go.Proofs.YtmanoiagchpelaaGreatDoor
open Go.Proofs.Tryz Go.Shelf
def Tryz.lays137_ren : Go.Shelf.Ren:=⟨fun|137=>135|217=>176|266=>212|n=>n,fun|9=>9|5=>5|3=>3|n=>n,fun|n=>n⟩
theorem Tryz.lays137: Go.Proofs.Lays.n137 prog Tryz.lays137_ren:={
 mixed:=by kernel_rfl,
 f137:=func135.trans (zV some (by kernel_rfl)),
 f217:=func176.trans (zV some (by kernel_rfl)),
 f266:=func212.trans (zV some (by kernel_rfl)),
 t3:=underlying3,
 a3:=isAgg3,
 z3:=sizeOf3,
 v3:=zeroValue3,
 t5:=underlying5,
 a5:=isAgg5,
 z5:=sizeOf5,
 v5:=zeroValue5,
 t9:=underlying9,
 a9:=isAgg9,
 z9:=sizeOf9,
 v9:=zeroValue9}
def Tryz.lays162_ren : Go.Shelf.Ren:=⟨fun|162=>162|232=>203|227=>204|234=>205|236=>206|228=>233|271=>234|151=>235|120=>252|197=>253|152=>254|260=>260|137=>135|119=>261|224=>262|225=>263|217=>176|266=>212|n=>n,fun|9=>9|4=>4|3=>3|5=>5|117=>268|116=>267|0=>0|124=>271|21=>21|105=>293|46=>97|119=>321|139=>324|138=>323|n=>n,fun|3=>1|4=>2|n=>n⟩
theorem Tryz.lays162: Go.Proofs.Lays.n162 prog Tryz.lays162_ren:={
 mixed:=by kernel_rfl,
 f119:=func261.trans (zV some (by kernel_rfl)),
 f120:=func252.trans (zV some (by kernel_rfl)),
 f137:=func135.trans (zV some (by kernel_rfl)),
 f151:=func235.trans (zV some (by kernel_rfl)),
 f152:=func254.trans (zV some (by kernel_rfl)),
 f162:=func162.trans (zV some (by kernel_rfl)),
 f197:=func253.trans (zV some (by kernel_rfl)),
 f217:=func176.trans (zV some (by kernel_rfl)),
 f224:=func262.trans (zV some (by kernel_rfl)),
 f225:=func263.trans (zV some (by kernel_rfl)),
 f227:=func204.trans (zV some (by kernel_rfl)),
 f228:=func233.trans (zV some (by kernel_rfl)),
 f232:=func203.trans (zV some (by kernel_rfl)),
 f234:=func205.trans (zV some (by kernel_rfl)),
 f236:=func206.trans (zV some (by kernel_rfl)),
 f260:=func260.trans (zV some (by kernel_rfl)),
 f266:=func212.trans (zV some (by kernel_rfl)),
 f271:=func234.trans (zV some (by kernel_rfl)),
 t0:=underlying0,
 a0:=isAgg0,
 z0:=sizeOf0,
 v0:=zeroValue0,
 t3:=underlying3,
 a3:=isAgg3,
 z3:=sizeOf3,
 v3:=zeroValue3,
 t4:=underlying4,
 a4:=isAgg4,
 z4:=sizeOf4,
 v4:=zeroValue4,
 t5:=underlying5,
 a5:=isAgg5,
 z5:=sizeOf5,
 v5:=zeroValue5,
 t9:=underlying9,
 a9:=isAgg9,
 z9:=sizeOf9,
 v9:=zeroValue9,
 t21:=underlying21,
 a21:=isAgg21,
 z21:=sizeOf21,
 v21:=zeroValue21,
 t46:=underlying97,
 a46:=isAgg97,
 z46:=sizeOf97,
 v46:=zeroValue97,
 t105:=underlying293,
 a105:=isAgg293,
 z105:=sizeOf293,
 v105:=zeroValue293,
 t116:=underlying267,
 a116:=isAgg267,
 z116:=sizeOf267,
 t117:=underlying268,
 a117:=isAgg268,
 z117:=sizeOf268,
 v117:=zeroValue268,
 t119:=underlying321,
 a119:=isAgg321,
 z119:=sizeOf321,
 t124:=underlying271,
 a124:=isAgg271,
 z124:=sizeOf271,
 v124:=zeroValue271,
 t138:=underlying323,
 a138:=isAgg323,
 z138:=sizeOf323,
 v138:=zeroValue323,
 t139:=underlying324,
 a139:=isAgg324,
 z139:=sizeOf324,
 v139:=zeroValue324,
 g3:=by kernel_rfl,
 g4:=by kernel_rfl}
end Go.Proofs.YtmanoiagchpelaaGreatDoor
namespace Go.Proofs.YtmanoiagchpelaaGreatDoor
open Go.Proofs.Tryz Go.RowKit
theorem Yt (h n:Int) (b:0<=h) (d:h<256) (e:0<=n) (f:n<256):(((n-h).tmod 256+256)%256)=((farN h.toNat n.toNat)):=by
 unfold farN;have a:(n-h).tmod 256=n-h:=by
  by_cases c:0<=n-h
  .rw[ii c];omega
  .have:n-h = -(h-n):=(by omega);rw[this,Int.neg_tmod,ii (by omega)];omega
 rw[a];omega
theorem Sr (h n) (w) (m:0<=h) (p:h<256) (q:0<=n) (r:n<256):
 Calls prog 247 #[.int .i64 h,.int .i64 n] w fun e w'=>e=.returned (.int .i64 (farN h.toNat n.toNat))/\w=w':=by
 have f:=za (Yt h n m p q r);have d: -256<=(n-h).tmod 256/\(n-h).tmod 256<=256:=by
  have e:=Yt h n m p q r;have a:=oP (n-h) (b:=256) (by omega);have b: -256<(n-h).tmod 256:=by
   by_cases c:0<=n-h
   .have:=Int.tmod_nonneg 256 c;omega
   .have g:n-h = -(h-n):=(by omega);rw[g,Int.neg_tmod];have:=oP (h-n) (b:=256) (by omega);omega
  omega
 obtain⟨l,i⟩:=d;have j:=zW (n-h) (by omega);have k:=zW ((n-h).tmod 256+256) (by omega);go_enter func247,ntmps247;go_wp2;go_ret;rw[<-f.o];exact⟨rfl,rfl⟩
open Go.Sort
abbrev Rk:=Nat×Nat×Nat
def encK (x:Rk):List Value:=[.int .i64 ((x.1%256:Nat)),.slice (some ⟨x.2.1,0,none⟩) 64 x.2.2,.bool false]
def cfK (h:Nat) (x y:Rk):Int:=(farN h (x.1%256))-(farN h (y.1%256))
theorem Uk (x):(encK x).length=3:=rfl
theorem QI (x):∀v∈encK x,v.oneCell'=true:=by intro v a;simp[encK]at a;rcases a with rfl|rfl|rfl<;>rfl
theorem SE (D h:Nat) (F:h<256) (x y) (W) (E:W.cell? (D,0)=some (.int .i64 h)):
 Calls prog 246 #[.agg (encK x).toArray,.agg (encK y).toArray,(D,())] W fun e w'=>e=.returned (.int .i64 (cfK h x y))/\∃q os',w'=grow (W.drewN q) os':=by
 obtain⟨a,k⟩:=zD (x.1%256);obtain⟨b,j⟩:=zD (y.1%256);have C:a<256:=by rw[<-k.o];omega
 have t:b<256:=by rw[<-j.o];omega
 unfold cfK encK;rw[k.o,j.o];obtain⟨u,c⟩:=zA x.2.1;obtain⟨v,f⟩:=zA x.2.2;obtain⟨A,g⟩:=zA y.2.1;obtain⟨z,d⟩:=zA y.2.2;rw[<-c.o,<-f.o,<-g.o,<-d.o];have l:=gj h a;have p:=gj h b;have i:=za (fun (n:Nat) (B:n<256) w=>Sr (h:Int) (n:Int) w (by omega) (by omega) (by omega) (by omega));simp only[yz]at i;have m:D<W.heap.size:=zG E;have r:¬D=W.heap.size:=by omega
 have s:¬D=W.heap.size+1:=by omega
 go_enter func246,ntmps246
 go_wp2
 go_quiet ((go_at_call 247;exact Calls.quiet_of_same ((i.o _ (by assumption) _).mono fun e w' h=>⟨h.1,h.2.symm⟩)))
 go_wp2;go_ret;exact⟨rfl,_,_,by rw[alloc_eq_grow,alloc_eq_grow,grow_grow];rfl⟩
end Go.Proofs.YtmanoiagchpelaaGreatDoor
namespace Go.Proofs.YtmanoiagchpelaaGreatDoor
open Go.Proofs.Tryz Go.ChangeShapes Go.WideShapes Go.ChangeAt Go.RowKit
theorem Tryz.own: ownKnob prog.godebug=none:=by kernel_rfl
theorem Tryz.laidOut: laidOutB prog=true:=by kernel_rfl
