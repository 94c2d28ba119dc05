import Derived.Test.YtmanoiagchpelaaGreatDoorKA14
import Derived.Test.YtmanoiagchpelaaGreatDoorKA22
import Derived.Maps.Own
set_option maxHeartbeats 0
set_option linter.all false
set_option maxRecDepth 100000
namespace Go.Proofs.YtmanoiagchpelaaGreatDoor
open Go.Proofs.Tryz Go.RowKit
variable {D:List Int}
def tc (D:List Int) (x:En):Int:=if okE x=false then 3 else if (outD D).any (fun y=>decide (x.1=y.1))=true then 5 else if (outD D).length=32 then 6 else 0
theorem VI {x:En} (h:sU D=true) (m:tc D x=0):sf (outD D++[x])=0:=by
 obtain⟨_,l,_,_⟩:=mP h;have g:=(rO _).1 l;unfold tc at m;by_cases d:okE x=false
 .rw[ze d]at m;cases m
 rw[zb d]at m;by_cases f:(outD D).any (fun y=>decide (x.1=y.1))=true
 .rw[ze f]at m;cases m
 rw[zb f]at m;by_cases j:(outD D).length=32
 .rw[ze j]at m;cases m
 rw[rO,zm];refine⟨by have:=g.1;simp;omega,fun y c=>?_,?_⟩
 .rcases yo.1 c with c|c
  .exact g.2.1 y c
  .rw[xt]at c;subst c;simpa using d
 .rw[yy,vf];refine⟨g.2.2,by simp,fun a k b i e=>f ?_⟩;obtain⟨y,c,rfl⟩:=zU.1 k;simp at i;rw[wb];exact⟨y,c,by simp[e,i]⟩
def iN (D:List Int) (x:En) (w:World) (e:Ending) (w':World):Prop:=(tc D x=0/\jK (outD D++[x]) w e w')\/(tc D x≠0/\e=.returned (.tuple #[.slice none 0 0,.int .i64 (tc D x)])/\Below w w w')
theorem PZ {w:World} {base B:Nat} {e:TypeId} {size:Nat} {v:Value} {n:Nat} {xs:List Value} (h:w.ownsRow base e size v n xs) (hB:B<=base) {k:Nat} (f:v.ownBlock=some k):B<=k:=by
 obtain⟨_,⟨a,_⟩|⟨g,c,b,a,d,_⟩⟩:=h
 .rw[a]at f;simp[Value.ownBlock]at f
 .rw[a]at f;have:g=k:=by simpa[Value.ownBlock]using f
  omega
theorem TF (v:Value) (D:List Int) (x:En) (w:World) (h:sx w v D) (hD:nt D) (ak:sU D=true):
 Calls prog 136 #[v,.agg #[.string x.1,x.2]] w (iN D x w):=by
 obtain⟨hm,a5,_,_⟩:=(nB D).1 ak;obtain⟨N,HN⟩:=zD D.length;obtain⟨p,cp,rfl⟩:=l9 h.1 N HN.o;have HR:=za (fun hp:tc D x=0=>VI ak hp);obtain⟨n,S⟩:=zD ((outD D).length);have a4:n<=32:=by rw[<-S.o,(mP ak).2.2.1];omega
 obtain⟨r,Hr⟩:=zD (tc D x);have g:=Hr;unfold tc at g;unfold iN;rw[Hr.o];rw[S.o]at g;rw[Hr.o]at HR;obtain⟨a,d⟩:=x;obtain⟨i0,af,X,ag,O⟩:=xy Vo;have HI:=za af;have az:=za X;have a0:=za ag;have an:=za O;obtain⟨H,P⟩:=zD (w.alloc (.cells #[.string a,d] 46));have L:Below w w H:=by rw[<-P.o];exact zB.alloc zL _
 have V:H.heap[w.heap.size]?=some (.cells #[.string a,d] 46):=by rw[<-P.o];exact zH
 have ai:=za (Vz (p,N,cp) D H (h.below L) hD (by omega));have ad:=za V;have ab:=za L;have au:=za ak;clear h hD ak af X ag O hm L V;go_enter func136,ntmps136;go_wp2_with fail
 rw[P.o];refine ai.o.mono ?_;intro e T ae;obtain⟨_,ov,rfl,j,C⟩|⟨F,_⟩:=ae;case inr=>rw[au.o]at F;cases F
 rw[S.o]at j;obtain⟨q,c,rfl,_⟩:=tV j;have B:=(C.block _ (xR ad.o)).trans ad.o;have a1:T.cell? (w.heap.size,0)=some (.string a):=zC B;have a2:T.cell? (w.heap.size,1)=some (.int .i64 d):=zC B;have aa:=za B;have al:=za j;have A:Hid (Below w w T):=zf ab.o C;have HZ:Hid (H.heap.size<=T.heap.size):=C.size;obtain⟨nm,J⟩:=zD (rW a);have aq:Hid (∀W:World,Calls prog 81 #[.string a] W fun e w'=>e=.returned (.bool nm)/\W=w'):=fun W=>by rw[<-J.o];exact Zd a W
 obtain⟨b,Hb⟩:=zD ((outD D).any (fun y=>decide (a=y.1)));have Z:rM T (q,n,c) (outD D):=by unfold rM;rw[S.o];exact wh.of_owns j
 have Q:=XS 178 LW (w.heap.size,()) (fun y=>decide (a=y.1)) _ (outD D) T Z (by rw[S.o];omega) (fun y _ W hW=>Rw a y w W (by rw[hW.cell (zG a1)];exact a1));rw[Hb.o]at Q;have ay:=za Q;clear Q Z B j C;go_wp2_with fail
 refine (aq.o _).mono ?_;rintro e w' ⟨rfl,rfl⟩;cases nm with
 | false=>
  have s:r=3:=by rw[<-g.o,ze];unfold okE;rw[J.o];rfl
  subst s;go_wp2
  go_returns
  exact zu ⟨by omega,rfl,A.o⟩
 | true=>
  by_cases h1:d<1
  .have s:r=3:=(by rw[<-g.o,ze];unfold okE;simp;omega);subst s;go_wp2
   go_returns
   exact zu ⟨by omega,rfl,A.o⟩
  by_cases h2:32<d
  .have s:r=3:=(by rw[<-g.o,ze];unfold okE;simp;omega);subst s;go_wp2
   go_returns
   exact zu ⟨by omega,rfl,A.o⟩
  have K:Hid ((if b=true then 5 else if n=32 then 6 else 0)=r):=by have ak:okE (a,d)=true:=(by unfold okE;rw[J.o];simp;omega);have h3:=g.o;rw[zb (by rw[ak];decide)]at h3;have h4:((outD D).any fun y=>decide ((a,d).1=y.1))=b:=Hb.o;rw[h4]at h3;exact h3
  go_wp2_with fail
  refine ay.o.mono ?_;rintro e R ⟨rfl,m⟩;have l:Hid (Below w w R):=zf A.o m;have E:Hid (R.ownsRow H 46 2 (q,n,c) n (ents (outD D))):=tB al.o m;have I:=(m.block _ (xR aa.o)).trans aa.o;have d1:R.cell? (w.heap.size,0)=some (.string a):=zC I;have d2:R.cell? (w.heap.size,1)=some (.int .i64 d):=zC I;have O:H.heap.size<=R.heap.size:=zt HZ.o m.size;clear m I;cases b with
  | true=>
   have ar:r=5:=K.o.symm;subst ar;go_wp2
   go_returns
   exact zu ⟨by omega,rfl,l.o⟩
  | false=>
   by_cases M:n=32
   .have ao:r=6:=(by have:=K.o;rw[zb (by decide),ze M]at this;exact this.symm);subst ao;subst M;go_wp2
    go_returns
    exact zu ⟨by omega,rfl,l.o⟩
   have a7:¬(n:Int)=32:=(by omega);have av:r=0:=(by have:=K.o;rw[zb (by decide),zb M]at this;exact this.symm);subst av;have aw:Hid ((R.alloc (.cells #[.string a,d] 46)).heap[R.heap.size]?=some (.cells #[.string a,d] 46)):=zH;go_wp2_with (at_builtin;refine yI _ rfl _ _ 42 rfl H.heap.size 46 i0 (.agg #[.string {data:=#[]},()]) 2 24 oR HI.o az.o a0.o an.o rfl (by decide) _ _ _ rfl (E.o.alloc _) ⟨_,0,none⟩ 1 1 [.string a,.int .i64 d] rfl rfl (xE (cs:=#[.string a,.int .i64 d]) (t:=46) (fr:=(0,0)) aw.o) (by simp[Value.oneCell']) (by unfold maxLen;omega) (by omega) (by simp only[si];omega) ?_;intro v8 w8 G z _)
   have f:w8.ownsRow H 46 2 v8 (outD D++[(a,d)]).length (ents (outD D++[(a,d)])):=(by rw[zm,S.o,Zw];exact G);have U:Below w w w8:=xB (l.o.alloc l.o.size _) z (by have:=l.o.size;simp only[si];omega) (fun k hk=>PZ E.o ab.o.size hk);have HL:=za (i7 v8 (outD D++[(a,d)]) w8 ⟨wh.of_owns f,jA f⟩ (HR.o trivial));have ac:=za U;clear f U G z;refine HL.o.mono ?_;rintro e w9 ⟨u,rfl,hu,ah,Y⟩;have aj:Hid (∀b,u.ownBlock=some b->w.heap.size<=b):=fun b hb=>zt ac.o.size (ah b hb);have HU:=za hu;have ap:Hid (Below w w w9):=zf ac.o Y;clear hu Y ah;go_wp2
   go_returns
   have i:jK (outD D++[(a,d)]) w (.returned (.tuple #[u,()])) w9:=⟨u,rfl,HU.o,aj.o,ap.o⟩
   first
    | exact i
    | exact zr i
    | exact zr ⟨rfl,i⟩
theorem P1 (h:sU D=true) (i):sf ((outD D).eraseIdx i)=0:=by obtain⟨_,c,_,_⟩:=mP h;have a:=(rO _).1 c;have b:=List.eraseIdx_sublist (outD D) i;rw[rO];exact⟨zt b.length_le a.1,fun x d=>a.2.1 x (b.subset d),(b.map (·.1)).nodup a.2.2⟩
def OutNew (D:List Int) (name:ByteArray) (w:World) (e:Ending) (w':World):Prop:=
 ((∀x∈outD D,decide (name=x.1)=false)/\e=.returned (.tuple #[.slice none 0 0,(4:Int)])/\Below w w w') \/
 (∃(i:Nat) (hi:i<(outD D).length),decide (name=(outD D)[i].1)=true/\jK ((outD D).eraseIdx i) w e w')
theorem TL (v:Value) (D:List Int) (name:ByteArray) (w:World) (h:sx w v D) (hD:nt D) (aj:sU D=true):
 Calls prog 126 #[v,.string name] w (OutNew D name w):=by
 obtain⟨hm,ah,_,_⟩:=(nB D).1 aj;obtain⟨N,HN⟩:=zD D.length;obtain⟨p,cp,rfl⟩:=l9 h.1 N HN.o;have HR:=za (P1 aj);obtain⟨n,z⟩:=zD ((outD D).length);have ag:n<=32:=by rw[<-z.o,(mP aj).2.2.1];omega
 obtain⟨x,t⟩:=zD (w.alloc (.cells #[.string name] 9));have s:Below w w x:=by rw[<-t.o];exact zB.alloc zL _
 have B:x.heap[w.heap.size]?=some (.cells #[.string name] 9):=by rw[<-t.o];exact zH
 have S:=za (Vz (p,N,cp) D x (h.below s) hD (by omega));have K:=za B;have I:=za s;have Z:=za aj;clear h hD aj hm s B;go_enter func126,ntmps126;go_wp2_with fail
 rw[t.o];refine S.o.mono ?_;intro e M L;obtain⟨_,ov,rfl,d,k⟩|⟨l,_⟩:=L;case inr=>rw[Z.o]at l;cases l
 have m:=d;rw[z.o]at d;obtain⟨q,c,rfl,_⟩:=tV d;have O:=(k.block _ (xR K.o)).trans K.o;have a1:M.cell? (w.heap.size,0)=some (.string name):=zC O;have U:=za m;have ab:Hid (Below w w M):=zf I.o k;have ae:x.heap.size<=M.heap.size:=k.size;have G:rM M (q,n,c) (outD D):=by unfold rM;rw[z.o];exact wh.of_owns d
 have Q:=XR 170 LX (w.heap.size,()) (fun y=>decide (name=y.1)) _ (outD D) M G (by rw[z.o];omega) (fun y _ W hW=>RF name y w W (by rw[hW.cell (zG a1)];exact a1));have af:=za Q;clear Q G O d k m;go_wp2_with fail
 refine af.o.mono ?_;rintro e R ⟨r,rfl,hr,g⟩;have F:Hid (Below w w R):=zf ab.o g;have E:Hid (R.ownsRow x 46 2 (q,n,c) (outD D).length (ents (outD D))):=tB U.o g;have aa:x.heap.size<=R.heap.size:=zt ae g.size;clear g;obtain⟨rfl,a⟩|⟨i,hi,rfl,hT,_⟩:=hr
 .have V:=za a;clear a;go_wp2
  go_returns
  exact zr ⟨V.o,rfl,F.o⟩
 .have HT:Hid (decide (name=(outD D)[i].1)=true):=hT;have Y:=za hi;obtain⟨j,Hj⟩:=zD (i+1);have T:=hi;rw[z.o]at T;have wj:IntKind.i64.wrap ((i:Int)+1)=(j:Int):=by rw[zQ _ (by omega)];have:=Hj.o;omega
  have ai:¬(i:Int)<0:=by omega
  have A:=za (Kb x (q,n,c) (outD D) R E.o i hi (by rw[z.o];omega) j Hj.o aa);clear hT;go_wp2_with fail
  refine A.o.mono ?_;rintro e w3 ⟨v3,rfl,f,H⟩;have J:Hid (Below w w w3):=F.o.trans (H.mono I.o.size);have HL:=za (i7 v3 ((outD D).eraseIdx i) w3 ⟨wh.of_owns f,jA f⟩ (HR.o i));clear f H;go_wp2_with fail
  refine HL.o.mono ?_;rintro e w4 ⟨u,rfl,hu,C,P⟩;have HU:=za hu;have X:Hid (∀b,u.ownBlock=some b->w.heap.size<=b):=fun b hb=>zt J.o.size (C b hb);have ad:Hid (Below w w w4):=zf J.o P;clear hu P C;go_wp2
  go_returns
  exact zu ⟨i,Y.o,HT.o,u,rfl,HU.o,X.o,ad.o⟩
open Go.Shelf Go.Sort
abbrev Js:=Fin 256×Option Addr×Nat×Nat
def encS (x:Js):List Value:=[.int .i64 (x.1.val),.slice x.2.1 x.2.2.1 x.2.2.2]
def cfS (x y:Js):Int:=(x.1.val)-(y.1.val)
theorem Ui (x):(encS x).length=2:=rfl
theorem QH (x):∀v∈encS x,v.oneCell'=true:=by intro v a;simp[encS]at a;rcases a with rfl|rfl<;>rfl
theorem SF: SWO (ltOf cfS) where
 irrefl x:=by unfold ltOf cfS;simp
 trans x y z h1 h2:=by unfold ltOf cfS at *;simp at *;omega
 ntrans x y z h1 h2:=by unfold ltOf cfS at *;simp at *;omega
theorem QR (x y) (W):
 Calls prog 143 #[.agg (encS x).toArray,.agg (encS y).toArray] W fun e w'=>e=.returned (.int .i64 (cfS x y))/\∃q os',w'=grow (W.drewN q) os':=by
 unfold cfS encS;obtain⟨⟨a,m⟩,l,k,i⟩:=x;obtain⟨⟨b,h⟩,j,g,f⟩:=y;have d:=zW (a-b) (by omega);have c:¬W.heap.size=W.heap.size+1:=by omega
 go_enter func143,ntmps143
 go_wp2;go_ret;exact⟨rfl,0,_,by rw[alloc_eq_grow,alloc_eq_grow,grow_grow];rfl⟩
def SortS (base:Nat) (v:Value) (O:List Js) (W:World) (e:Ending) (w':World):Prop:=e=.returned (.tuple #[])/\∃T:List Js,T.Perm O/\T.Pairwise (fun a b=>a.1.val<=b.1.val)/\w'.ownsRow base 202 2 v O.length (T.flatMap encS)/\W.grownBy w' v.ownBlock
theorem Td: ∀(args) (w),(callFunc 143 args).run prog w=.ok (.enter 143 args) w:=enters_of func143 (by kernel_rfl) rfl
theorem Pw (base) (v) (O) (W) (V:W.ownsRow base 202 2 v O.length (O.flatMap encS)) (X:O.length<=1000000):
 Calls prog 142 #[v,.func (.func 143) #[] #[]] W (SortS base v O W):=by
 have d:=V;obtain⟨T,⟨rfl,P⟩|⟨g,f,t,rfl,J,c,F,Q,D,I⟩⟩:=V
 .have K:=yR.1 P;refine (sH j7 none 0 (.func (.func 143) #[] #[]) W).mono fun e H ⟨w,B⟩=>⟨w,O,ig _,?_,?_,?_⟩
  .rw[K];exact List.Pairwise.nil
  .rw[B];exact d
  .rw[B];exact⟨rfl,rfl,rfl,zL,fun _ _ _=>rfl⟩
 .have a:O.toArray.size=O.length:=by simp
  have M:=KK Ui c (by rw[a];exact I);have o:CmpLays prog 143 #[] encS 2 cfS g 0 O.toArray.size W:=fun m os U _ x y=>QR x y _;have h:=qQ j7 2 isAgg202 sizeOf202 encS Ui QH cfS SF 143 #[] g 0 f O.toArray W Td o M (xR c) (by rw[a];omega);rw[a]at h;refine h.mono ?_;rintro e H ⟨w,b,n,os,C,z,rfl⟩;have q:b.size=O.length:=by rw[C.1,a]
  have l:b.toList.length=O.length:=by simpa using q
  have u:b.size*2<=t.size:=by rw[q,D];exact qJ _ F
  obtain⟨p,G,R,A⟩:=Ju (enc:=encS) (k:=2) Ui (m:=n) (os:=os) c u;refine⟨w,b.toList,?_,?_,?_,Jt⟩
  .have:=C.2.2;have S:(b.extract 0 O.length).toList=b.toList:=(by rw[<-q];simp);have L:(O.toArray.extract 0 O.length).toList=O:=(by simp);rw[S,L]at this;exact this
  .rw[xZ];intro i j N E r;rw[l]at N E;have s:=z i j zZ r E;rw[us b i (by omega),us b j (by omega)]at s;unfold ltOf cfS at s;simp at s;rw[ua,ua];omega
  .refine⟨by rw[fN Ui,l],zu ⟨g,f,p,rfl,J,G,F,Q,by rw[R];exact D,?_⟩⟩;rw[q]at A;exact A
theorem SD (h):SWO (ltOf (cfK h)) where
 irrefl x:=by unfold ltOf cfK;simp
 trans x y z h1 h2:=by unfold ltOf cfK at *;simp at *;omega
 ntrans x y z h1 h2:=by unfold ltOf cfK at *;simp at *;omega
theorem Pv: Kr:=by
 intro t h G v O W V d a hl;have o:=d;obtain⟨h0,⟨rfl,hn⟩|⟨g,p,C,rfl,R,c,M,hm,K,Q⟩⟩:=d
 .have T:=yR.1 hn;refine (sH j8 none 0 (.func (.func 246) #[] #[(t,())]) W).mono fun e P ⟨E,I⟩=>⟨E,O,ig _,?_,?_,?_⟩
  .rw[T];exact List.Pairwise.nil
  .rw[I];exact o
  .rw[I];exact⟨rfl,rfl,rfl,zL,fun _ _ _=>rfl⟩
 .have b:O.toArray.size=O.length:=by simp
  have X:=KK Uk c (by rw[b];simpa using Q);have z:=tC a c (by decide);have r:CmpLays prog 246 #[(t,())] encK 3 (cfK h) g 0 O.toArray.size W:=fun m os Y _ x y=>SE t h V x y _ (by rw[cell?_sortWorldK_other encK 3 W g 0 m Y os ⟨t,0,none⟩ z (xR a)];exact zC a);have S:∀args w,(callFunc 246 args).run prog w=.ok (.enter 246 args) w:=enters_of func246 (by kernel_rfl) rfl;have q:=qQ j8 3 isAgg204 sizeOf204 encK Uk QI (cfK h) (SD h) 246 #[(t,())] g 0 p O.toArray W S r X (xR c) (by rw[b];omega);rw[b]at q;refine q.mono ?_;rintro e P ⟨E,f,n,os,J,F,rfl⟩;have u:f.size=O.length:=by rw[J.1,b]
  have l:f.toList.length=O.length:=by simpa using u
  have D:f.size*3<=C.size:=by rw[u,K];exact qJ _ M
  obtain⟨s,N,k2,H⟩:=Ju (enc:=encK) (k:=3) Uk (m:=n) (os:=os) c D;refine⟨E,f.toList,?_,?_,?_,Jt⟩
  .have:=J.2.2;have e1:(f.extract 0 O.length).toList=f.toList:=(by rw[<-u];simp);have U:(O.toArray.extract 0 O.length).toList=O:=(by simp);rw[e1,U]at this;exact this
  .rw[xZ];intro i j Z L A;rw[l]at Z L;have B:=F i j zZ A L;rw[us f i (by omega),us f j (by omega)]at B;unfold ltOf cfK at B;simp at B;rw[ua,ua];omega
  .rw[l];refine⟨by rw[fN Uk,l],zu ⟨g,p,s,rfl,R,N,M,hm,by rw[k2];exact K,?_⟩⟩;rw[u]at H;exact H
end Go.Proofs.YtmanoiagchpelaaGreatDoor
namespace Go.Proofs.YtmanoiagchpelaaGreatDoor
open Go.Proofs.Tryz Go.RowKit
variable {F:Nat->Prop} {a:Addr} {base gl k kd:Nat} {d:Value} {sq:Int} {st:Dk} {w w3 wr:World} {x:Rq}
theorem P3 (v) (E) (h:Nat) (a:h<256) (w) (b:rI w v E) (c:∀x∈E,RqOk w x) (d:E.length<=100):
 Calls prog 181 #[v,h] w (Kt (E.map rab) h w):=P2 Pv v E h a w b c d
theorem l6 {B:Nat} {a:World} (h:Below B a w) (n):Below B a (w.drewN n):=⟨h.os,h.tape,h.output,h.size,h.block⟩
theorem uS.drewN (h:uS w d st k F) (n):uS (w.drewN n) d st k F:=h.keep (G:=fun _=>False) ⟨rfl,rfl,rfl,zL,fun _ _ _=>rfl⟩ (fun _ _ h=>h)
theorem rb_of (h:RqOk w x) (f:x.b=false->x.n<k):RbOk k (rab x):=by
 rcases h with⟨a,_⟩|⟨a,d,e,c⟩
 .exact zr a
 .exact zu ⟨f a,c⟩
theorem RG (a:k<=256) {l:List Rb} (b:∀x∈l,RbOk k x):∀x∈qA l 0,RbOk k x:=(PA a l 0 (by omega) (uZ k) (Qo k) b).2
theorem Did.start {w':World} (h:uS w d st k F) (a:Below w w w'):Did d st k F w' w':=⟨F,h.below a,fun _ h=>zr h,yQ.refl _ _⟩
theorem Tw (h:lu w3 base x) (j:x.b=false) (k:yQ F w3 wr) (l:∀i,F i->i<base):∃gx cx cur,x.v=.slice (some ⟨gx,0,none⟩) 64 cx/\base<=gx/\gx<w3.heap.size/\x.D.length=64/\wr.heap[gx]?=some (.cells cur 5)/\cur.toList.take 64=u8s x.D:=by
 rcases h with⟨f,_⟩|⟨_,_,g,gx,cx,cur,d,c,a,e⟩
 .rw[j]at f;cases f
 .exact⟨gx,cx,cur,d,c.1,xR a,g,(k.block gx (xR a) (fun h=>by have:=l gx h;have:=c.1;omega)).trans a,e⟩
theorem Tv (h:uS w (.pointer (some a)) st k F) (v) (E) (hv:rI w v E) (hE:∀x∈E,RqOk w x) (hk:∀x∈E,x.b=false->x.n<k) (a2:k<=256) (hl:E.length<=100) (hW:st.W.length<900000):
 Calls prog 141 #[.pointer (some a),v] w fun e w'=>e=.returned ()/\Did (.pointer (some a)) (runE st (qA (E.map rab) 0)) k F w w':=by
 have HD:=za h;have aO:=za h.fin;have HE:=za hE;have HK:=za hk;have U:=za (fun W (hW:Below w w W)=>P3 v E 0 (by omega) W (hv.below hW) (fun x hx=>(hE x hx).below hW) hl);unfold Kt at U;have aG:=za (RG a2 fun x hx=>by obtain⟨y,hy,rfl⟩:=zU.1 hx;exact rb_of (hE y hy) (hk y hy));have ao:(qA (E.map rab) 0).length<=E.length:=by have:=K6 (E.map rab) 0 (by omega);rw[yp]at this;exact this
 obtain⟨p,cp,rfl,HP⟩:=gW hv.row;obtain⟨N,HN⟩:=zD E.length;rw[HN.o]at hl HP U ao;rw[HN.o];generalize qA (E.map rab) 0=O at *
 clear hv hE hk h;go_enter func141,ntmps141;go_wp2;go_loopw [14] (fun i wr=>∃j:Nat,j<=N/\i=.int .i64 j/\Below w w wr) (fun i _=>N-(intOf i).toNat);case atStart=>exact⟨0,ye _,rfl,zB⟩
 case round=>
  obtain⟨j,hj,rfl,C⟩:=hrel;by_cases G:j<N
  .obtain⟨g,o,rfl,z,t⟩:=HP.o (by omega);have m:j<E.length:=(by rw[HN.o];exact G);obtain⟨e0,e1,e2⟩:=Zu E j m;obtain⟨px,lx,Q,a7,_,aQ⟩:=(HE.o E[j] (zx m)).shape;rw[a7]at e1;have c0:=(C.cell (p:=⟨g,o+j*3,none⟩) z).trans (t _ _ e0);have c1:=(C.cell (p:=⟨g,o+(j*3+1),none⟩) z).trans (t _ _ e1);have c2:=(C.cell (p:=⟨g,o+(j*3+2),none⟩) z).trans (t _ _ e2);rw[<-yC]at c1 c2;have f:=HK.o E[j] (zx m);obtain⟨r,A⟩:=zD (E[j].n);obtain⟨xb,d⟩:=zD (E[j].b);rw[A.o]at c0 aQ f;rw[d.o]at c2 f;have a9:j<(N:Int):=(by omega);have aM:=zo z C.size;have aJ:¬g=wr.heap.size:=(by omega);have P:Hid (Below w w (wr.alloc (.cells #[r,(px,lx,Q),.bool xb] 204))):=C.alloc C.size _;have aT:Hid (∀n,Calls prog 93 #[.pointer (some a)] ((wr.alloc (.cells #[r,(px,lx,Q),.bool xb] 204)).drewN n) fun e w'=>e=.returned k/\w'=(wr.alloc (.cells #[r,(px,lx,Q),.bool xb] 204)).drewN n):=fun n=>(mH ((HD.o.below P.o).drewN n)).mono fun e w' h=>⟨h.1,h.2.symm⟩;clear t e0 e1 e2 a7;cases xb with
   | true=>
    clear f;go_wp2
    go_quiet (fail)
    go_wp2;go_roundw;case rel=>exact⟨j+1,by omega,by go_num,l6 P.o _⟩
    case measure=>simp[intOf];omega
   | false=>
    have ba:=f rfl;have b1:decide ((r:Int)<0)=false:=(by rw[zM];omega);have b2:decide (k<=(r:Int))=false:=(by rw[zM];omega);have b3:¬k<=(r:Int):=(by omega);have b4:¬k<=r:=(by omega);clear f;go_wp2
    go_quiet ((go_at_call 93;exact xT (aT.o _)))
    go_wp2;go_roundw;case rel=>exact⟨j+1,by omega,by go_num,l6 P.o _⟩
    case measure=>simp[intOf];omega
  .go_wp2_with fail
   refine (U.o _ C).mono ?_;rintro e V ⟨v3,rfl,a6,aw⟩;have az:=za (zf C aw);have aX:Hid (Did (.pointer (some a)) (runE st (O.take 0)) k F V V):=Did.start HD.o az.o;have a5:=C.size;obtain⟨B,am⟩:∃B,wr.heap.size=B:=⟨_,rfl⟩;rw[am]at a5 a6;have aq:∀i,F i->i<B:=fun i hi=>zo (aO.o i hi) a5;obtain⟨c,J,Y,a1⟩:=a6;have K:=iU J;obtain⟨q,bf,rfl,hq⟩:=tV Y;obtain⟨L,HL⟩:=zD c.length;have HQ:Hid (0<L->∃g,q=some ⟨g,0,none⟩/\g<V.heap.size/\B<=g/\∀(j) (x),(tb c)[j]?=some x->V.cell? ⟨g,j,none⟩=some x):=fun h0=>(by obtain⟨g,rfl,z,t⟩:=hq (by rw[HL.o];exact h0);exact⟨g,rfl,(Y.lt g rfl).2,z,t⟩);rw[HL.o];rw[HL.o]at K;have aL:L<=100:=(by omega);have aR:=za J;have aP:=za a1;have aa:=za aq;have ai:=za K;have aH:=za hW;clear J Y a1 hq aw aq K ao am C;go_wp2;go_loopw [44] (fun i wq=>∃j:Nat,j<=L/\i=.int .i64 j/\Hid (Did (.pointer (some a)) (runE st (O.take j)) k F V wq)) (fun i _=>L-(intOf i).toNat);case atStart=>exact⟨0,ye _,rfl,aX⟩
   case round=>
    obtain⟨j,hj,rfl,HR⟩:=hrel;by_cases G:j<L
    .obtain⟨g,rfl,z,bn,t⟩:=HQ.o (by omega);have m:j<c.length:=(by rw[HL.o];exact G);have ae:j<O.length:=(by rw[<-ai.o];exact G);obtain⟨F',ap,ar,s⟩:=HR.o;obtain⟨e0,e1,e2⟩:=Zu c j m;have T:¬F g:=fun h=>(by have:=aa.o g h;omega);have c0:=(s.cell z T).trans (t _ _ e0);have c2:=(s.cell z T).trans (t _ _ e2);have c1:=(s.cell z T).trans (t _ _ e1);have ac:rab c[j]=O[j]:=(by have h1:(c.map rab)[j]?=O[j]? :=(by rw[aR.o]);rw[xF,zh m,zh ae]at h1;simpa using h1);have ab:=aG.o O[j] (zx ae);rw[<-ac]at ab;have ak:Hid (runE st (O.take (j+1))=doE (runE st (O.take j)) (rab c[j])):=(by show _=_;rw[<-zR ae,KD,ac]);have a0:=aP.o c[j] (zx m);have aM:=zo z s.size;have aJ:¬g=wr.heap.size:=(by omega);have a9:j<(L:Int):=(by omega);have a4:(runE st (O.take j)).W.length<1000000:=(by have h1:=fX st (O.take j);have h2:=List.length_take_le j O;have h3:=aH.o;omega);have ax:=za a0;have aI:=za ab;have av:=za ap;have R:=za ar;have S:=za s;have aU:=za a4;clear t e0 e1 e2 ac a0 ap ar s ab HR a4;obtain⟨xb,d⟩:=zD (c[j].b);obtain⟨r,A⟩:=zD (c[j].n);rw[d.o]at c2;rw[A.o]at c0;cases xb with
     | true=>
      have an:c[j].v=.slice none 0 0:=by
       rcases ax.o with⟨_,_,h,_⟩|⟨h,_⟩
       .exact h
       .rw[d.o]at h;cases h
      rw[an]at c1;have M:=za (av.o.below (zB.alloc zL (.cells #[r,.slice none 0 0,.bool true] 204)));have X:Hid (doE (runE st (O.take j)) (rab c[j])=pU (runE st (O.take j))):=(by show _=_;unfold doE;rw[ze (show (rab c[j]).2.2=true from d.o)]);clear an;go_wp2_with fail
      refine (fJ M.o).mono ?_;rintro e wq ⟨rfl,l⟩;have Z:Hid (Did (.pointer (some a)) (runE st (O.take (j+1))) k F V wq):=(by show Did _ _ _ _ _ _;rw[ak.o,X.o];exact um (S.o.step (yQ.alloc _)) R.o l);clear l;go_wp2;go_roundw;case rel=>exact⟨j+1,by omega,by go_num,Z⟩
      case measure=>simp[intOf];omega
     | false=>
      obtain⟨I,Q,be,a3,au,al,u,ad,aj⟩:=Tw ax.o d.o S.o aa.o;rw[a3]at c1;have f:r<k:=by
       rcases aI.o with h|⟨h,_⟩
       .rw[show (rab c[j]).2.2=c[j].b from rfl,d.o]at h;cases h
       .rw[<-A.o];exact h
      have H:¬F' I:=fun h=>by
       rcases R.o I h with h|h
       .have:=aa.o I h;omega
       .omega
      have a8:I<(wr.alloc (.cells #[r,.slice (some ⟨I,0,none⟩) 64 Q,.bool false] 204)).heap.size:=(by have:=xR ad;simp;omega);have M:=za (av.o.below (zB.alloc zL (.cells #[r,.slice (some ⟨I,0,none⟩) 64 Q,.bool false] 204)));have aE:=za (jM M.o r f (.slice (some ⟨I,0,none⟩) 64 Q) c[j].D u (fun w' hk=>pD u ((hk.block I a8 H).trans (tA ad _)) aj) aU.o);have X:Hid (doE (runE st (O.take j)) (rab c[j])=se (runE st (O.take j)) r c[j].D):=(by show _=_;unfold doE;rw[zb (by rw[show (rab c[j]).2.2=c[j].b from rfl,d.o];simp),<-A.o];rfl);clear a3 au al u ad aj f H a8;go_wp2_with fail
      refine aE.o.mono ?_;rintro e wq ⟨rfl,l⟩;have Z:Hid (Did (.pointer (some a)) (runE st (O.take (j+1))) k F V wq):=(by show Did _ _ _ _ _ _;rw[ak.o,X.o];exact um (S.o.step (yQ.alloc _)) R.o l);clear l;go_wp2;go_roundw;case rel=>exact⟨j+1,by omega,by go_num,Z⟩
      case measure=>simp[intOf];omega
    .have HT:Hid (O.take j=O):=zv (by rw[<-ai.o];omega);rw[HT.o]at HR;go_wp2;go_ret;exact⟨rfl,um (yQ.of_below az.o) (fun _ h=>zr h) HR.o⟩
def okO (N:List Int):Bool:=na N&&qV N
def seqO (N:List Int):Int:=if na N=true then mJ N else 0
def qW (N:List Int):List Wr:=if okO N=true then lq N (og N) else []
def lr (st:Dk):Dk:=runE st (emit (qW st.N))
def lf (kd:Nat) (x:Wr):Prop:=x.1<kd/\(x.1<5\/37<=x.1)
def logC (a:Addr) (sq:Int):Array Value:=#[.pointer (some a),.int .i64 5,.int .i64 32,.int .u32 sq]
def jb (kd:Nat) (a:Addr) (st:Dk) (sq:Int) (F:Nat->Prop) (gl:Nat) (w w':World):Prop:=
 ∃F',uS w' (.pointer (some a)) st kd F'/\(∀i,F' i->F i\/w.heap.size<=i)/\¬F' gl/\yQ F w w'/\w'.heap[gl]?=some (.cells (logC a sq) 198)
theorem MC (P) (x):emit (P++[x])=emit P++[(x.1,x.2,false)]:=by unfold emit;rw[yy];rfl
theorem KV (st) (n) (D):doE st (n,D,false)=se st n D:=by unfold doE;rw[zb (by simp)]
theorem Gr (st) (P) (x):runE st (emit (P++[x]))=se (runE st (emit P)) x.1 x.2:=by rw[MC,KD,KV]
theorem Se {x:Jw} (h:ni w3 base x) (e:yQ F w3 wr) (f:∀i,F i->i<base):∃gx cx cur,x.v=.slice (some ⟨gx,0,none⟩) 64 cx/\base<=gx/\gx<w3.heap.size/\wr.heap[gx]?=some (.cells cur 5)/\cur.toList.take 64=u8s x.D:=by obtain⟨_,_,gx,cx,cur,c,b,a,d⟩:=h;exact⟨gx,cx,cur,c,b.1,xR a,(e.block gx (xR a) (fun h=>by have:=f gx h;have:=b.1;omega)).trans a,d⟩
theorem TM (an:64<=kd) (ao:kd<=256) (h:uS w (.pointer (some a)) st kd F) (hN:un st.N) (hg:∀x∈qW st.N,lf kd x) (hW:st.W.length<900000):
 Calls prog 96 #[.pointer (some a),(5:Int),(32:Int)] w fun e w'=>∃gl,e=.returned (.tuple #[.pointer (some ⟨gl,0,none⟩),()])/\w.heap.size<=gl/\jb kd a (lr st) (seqO st.N) F gl w w':=by
 have HD:=za h;have ag:=za h.fin;have aq:=za (Rm an ao h hN);have av:=za hg;have a5:=za hW;clear h hN hg hW;go_enter func96,ntmps96;go_wp2_with fail
 refine aq.o.mono ?_;intro e l P;unfold gH at P;have y:∀(l) (sq),Below w w l->okO st.N=false->seqO st.N=sq->jb kd a (lr st) (seqO st.N) F l w (l.alloc (.cells (logC a sq) 198)):=fun l sq f G a8=>by
  have e:lr st=st:=by unfold lr qW;rw[G,zb (by simp)];rfl
  rw[e,a8];refine⟨F,(HD.o.below f).below (zB.alloc zL _),fun _ h=>zr h,fun h=>?_,(yQ.of_below f).step (yQ.alloc _),zH⟩;have h1:=ag.o _ h;have h2:=f.size;omega
 rcases P with⟨t,rfl,f⟩|⟨t,s2,rfl,f⟩|⟨t,s2,v,E,rfl,hE,hJ,f⟩
 .have A:=za (y l 0 f (by unfold okO;rw[t];rfl) (by unfold seqO;rw[zb (by rw[t];simp)]));have u:=za f;clear y f t;go_wp2;go_ret2;exact⟨_,rfl,u.o.size,A.o⟩
 .have A:=za (y l (mJ st.N) f (by unfold okO;rw[s2];simp) (by unfold seqO;rw[ze t]));have u:=za f;clear y f t s2;go_wp2;go_ret2;exact⟨_,rfl,u.o.size,A.o⟩
 .have G:okO st.N=true:=by unfold okO;rw[t,s2];rfl
  have R:Hid (qW st.N=E.map jab):=by show _=_;unfold qW;rw[ze G,hE]
  have aF:Hid (seqO st.N=mJ st.N):=by show _=_;unfold seqO;rw[ze t]
  have aE:Hid (lr st=runE st (emit (E.map jab))):=by show _=_;unfold lr;rw[R.o]
  have ah:Hid (∀x∈E,lf kd (jab x)):=fun x hx=>av.o _ (by rw[R.o];exact zU.2 ⟨x,hx,rfl⟩);have aH:E.length<=30:=by have h1:=zV List.length hE;rw[yp,KB]at h1;unfold na at t;simp only[yL,xw]at t;omega
  obtain⟨p,cp,rfl,HP⟩:=VA (wh.of_owns hJ.1);obtain⟨N,C⟩:=zD E.length;rw[C.o]at HP aH;rw[C.o];have ae:=za hJ.2;have aj:=za hJ.1;have B:=za f;generalize mJ st.N=sq at *
  clear hJ f hE t s2 G y aq av R;go_wp2;go_loopw [31] (fun i wr=>∃k:Nat,k<=N/\i=.int .i64 k/\Hid (Below l l wr)) (fun i _=>N-(intOf i).toNat);case atStart=>exact⟨0,ye _,rfl,zB⟩
  case round=>
   obtain⟨k,hk,rfl,u⟩:=hrel;by_cases H:k<N
   .obtain⟨g,o,rfl,hg,X⟩:=HP.o (by omega);have d:k<E.length:=(by rw[C.o];exact H);obtain⟨I,M⟩:=Yd E k d;have s:=ah.o E[k] (zx d);obtain⟨px,V,Z⟩:=(ni.ok (ae.o E[k] (zx d))).shape;generalize E[k]=x at I M s Z;obtain⟨b,xv,xD⟩:=x;dsimp only at Z I M;subst Z;have c0:=(u.o.cell (p:=⟨g,o+k*2,none⟩) hg).trans (X _ _ I);have c1:=(u.o.cell (p:=⟨g,o+(k*2+1),none⟩) hg).trans (X _ _ M);rw[<-yC]at c1;obtain⟨Q,K⟩:b<kd/\(b<5\/37<=b):=s;have au:k<(N:Int):=(by omega);have a7:=zo hg u.o.size;have a6:¬g=wr.heap.size:=(by omega);have T:Hid (Below l l (wr.alloc (.cells #[b,.slice px 64 V] 202))):=u.o.alloc u.o.size _;have am:Hid (∀n,Calls prog 93 #[.pointer (some a)] ((wr.alloc (.cells #[b,.slice px 64 V] 202)).drewN n) fun e w'=>e=.returned (.int .i64 (kd))/\w'=(wr.alloc (.cells #[b,.slice px 64 V] 202)).drewN n):=fun n=>(mH ((HD.o.below (zf B.o T.o)).drewN n)).mono fun e w' h=>⟨h.1,h.2.symm⟩;have d1:decide (kd<=(b:Int))=false:=(by rw[zM];omega);have aS:decide (kd<=b)=false:=(by rw[zM];omega);clear X I M;by_cases h2:b<5
    .have d2:decide (5<=(b:Int))=false:=(by rw[zM];omega);have aC:decide (5<=b)=false:=(by rw[zM];omega);clear h2 K;go_wp2
     go_quiet ((go_at_call 93;exact xT (am.o _)))
     go_wp2;go_roundw;case rel=>exact⟨k+1,by omega,by go_num,l6 T.o _⟩
     case measure=>simp[intOf];omega
    .have h8:37<=b:=(by omega);have d2:decide (5<=(b:Int))=true:=(by rw[yJ];omega);have aC:decide (5<=b)=true:=(by rw[yJ];omega);have d3:decide ((b:Int)<37)=false:=(by rw[zM];omega);have aR:decide (b<37)=false:=(by rw[zM];omega);clear h2 K;go_wp2
     go_quiet ((go_at_call 93;exact xT (am.o _)))
     go_wp2;go_roundw;case rel=>exact⟨k+1,by omega,by go_num,l6 T.o _⟩
     case measure=>simp[intOf];omega
   .have aK:Hid (Did (.pointer (some a)) (runE st (emit ((E.take 0).map jab))) kd F l wr):=
     ⟨F,HD.o.below (zf B.o u.o),fun _ h=>zr h,yQ.of_below u.o⟩
    have ad:=ag.o;have Y:=za ad;have aQ:decide (k<N)=false:=(by rw[zM];exact H);clear u ad;go_wp2;go_loopw [57] (fun i wq=>∃j:Nat,j<=N/\i=.int .i64 j/\Hid (Did (.pointer (some a)) (runE st (emit ((E.take j).map jab))) kd F l wq)) (fun i _=>N-(intOf i).toNat);case atStart=>exact⟨0,ye _,rfl,aK⟩
    case round=>
     obtain⟨j,hj,rfl,HR⟩:=hrel;by_cases H:j<N
     .obtain⟨g,o,rfl,hg,X⟩:=HP.o (by omega);have d:j<E.length:=(by rw[C.o];exact H);obtain⟨F',q,r,c⟩:=HR.o;obtain⟨I,M⟩:=Yd E j d;have aW:=(aj.o.lt g rfl).1;have ac:¬F g:=fun h=>(by have:=Y.o g h;omega);have c0:=(c.cell hg ac).trans (X _ _ I);have c1:=(c.cell hg ac).trans (X _ _ M);rw[<-yC]at c1;have s:=ah.o E[j] (zx d);have m:=ae.o E[j] (zx d);have U:Hid (runE st (emit ((E.take (j+1)).map jab))=se (runE st (emit ((E.take j).map jab))) E[j].n E[j].D):=(by show _=_;rw[<-zR d,yy];exact Gr _ _ _);generalize E[j]=x at I M c0 c1 s m U;obtain⟨b,xv,xD⟩:=x;obtain⟨L,V,aO,ak,ai,ab,aa,S⟩:=Se m c Y.o;dsimp only at ak c0 c1 U S;subst ak;have Q:b<kd:=s.1;have z:xD.length=64:=m.2.1;have a7:=zo hg c.size;have a6:¬g=wr.heap.size:=(by omega);have au:j<(N:Int):=(by omega);have al:(runE st (emit ((E.take j).map jab))).W.length<1000000:=(by have h1:=fX st (emit ((E.take j).map jab));rw[show (emit ((E.take j).map jab)).length=(E.take j).length by simp[emit]]at h1;have h2:=List.length_take_le j E;have h3:=a5.o;omega);have J:¬F' L:=fun h=>by
       rcases r L h with h|h
       .have:=Y.o L h;omega
       .omega
      have ar:L<(wr.alloc (.cells #[b,.slice (some ⟨L,0,none⟩) 64 V] 202)).heap.size:=(by have:=xR aa;simp;omega);have a1:=za (q.below (zB.alloc zL (.cells #[b,.slice (some ⟨L,0,none⟩) 64 V] 202)));have az:=za (jM a1.o b Q (.slice (some ⟨L,0,none⟩) 64 V) xD z (fun w' hk=>pD z ((hk.block L ar J).trans (tA aa _)) S) al);have a2:=za r;have a4:=za c;clear X I M q r c s m ai ab z aa S J ar al HR;go_wp2_with fail
      refine az.o.mono ?_;rintro e wq ⟨rfl,O⟩;have aB:Hid (Did (.pointer (some a)) (runE st (emit ((E.take (j+1)).map jab))) kd F l wq):=(by show Did _ _ _ _ _ _;rw[U.o];exact um (a4.o.step (yQ.alloc _)) a2.o O);clear O;go_wp2;go_roundw;case rel=>exact⟨j+1,by omega,by go_num,aB⟩
      case measure=>simp[intOf];omega
     .have HT:Hid (E.take j=E):=zv (by rw[C.o];omega);rw[HT.o,<-aE.o]at HR;obtain⟨F',q,r,c⟩:=HR.o;have A:Hid (jb kd a (lr st) (seqO st.N) F wr w (wr.alloc (.cells (logC a sq) 198))):=by
       show jb _ _ _ _ _ _ _ _;rw[aF.o];refine⟨F',q.below (zB.alloc zL _),fun i hi=>?_,fun h=>?_,((yQ.of_below B.o).step c).step (yQ.alloc _),zH⟩
       .rcases r i hi with h|h
        .exact zr h
        .exact zu (zt B.o.size h)
       .have:=q.fin _ h;omega
      have a3:=zt B.o.size c.size;clear q r c HR;go_wp2;go_ret2;exact⟨_,rfl,a3,A.o⟩
open Go.Maps
def mapS (S:List Nat):DataW Value:=S.foldl (fun D n=>D.put (keyL n) (.held (.bool true))) (.map [])
theorem KI (S) (n):mapS (S++[n])=(mapS S).put (keyL n) (.held (.bool true)):=by unfold mapS;rw[xG];rfl
theorem TY (S:List Nat):∀k,k<=S.length->IsMap (mapS (S.take k))/\∀n,(mapS (S.take k)).atKey (keyL n) (.held (.bool false))=.held (.bool ((S.take k).contains n)):=by
 intro k
 induction k with
 | zero=>intro _;exact⟨isMap_empty,fun n=>by rw[atKey_of_not_has (by simp[mapS,has])];rfl⟩
 | succ k c=>
  intro f;obtain⟨a,d⟩:=c (by omega);have b:S.take (k+1)=S.take k++[S[k]]:=(zR (show k<S.length by omega)).symm;rw[b,KI];refine⟨a.put _ _,fun n=>?_⟩;by_cases e:n=S[k]
  .subst e;rw[atKey_put_same a (Uc _)];have:(S.take k++[S[k]]).contains S[k]=true:=(by rw[ux];exact List.mem_append_right _ (xt.2 rfl));rw[this]
  .rw[atKey_put_other (fun h=>e (fA h)),d];have this:(S.take k++[S[k]]).contains n=(S.take k).contains n:=(by rw[kA,ux,ux,yo,xt];exact⟨fun h=>h.resolve_right e,zr⟩);rw[this]
theorem YZ (S) (n):(mapS S).atKey (keyL n) (.held (.bool false))=.held (.bool (S.contains n)):=by
 have:=(TY S S.length zL).2 n
 rwa [xJ]at this
def rJ (kd:Nat):List Nat->List (Nat×Nat)->Int
 | _,[]=>0
 | S,x::r=>if kd<=x.1\/(5<=x.1/\x.1<37)\/x.2≠64 then 1 else if S.contains x.1=true then 5 else rJ kd (S++[x.1]) r
def jnl (x:Jw):Nat×Nat:=(x.n,x.D.length)
def fZ (kd:Nat) (E:List Jw):Int:=if 30<E.length then 2 else rJ kd [] (E.map jnl)
theorem TA {E:List Jw} (hk) (S):rJ kd S ((E.drop k).map jnl)=if kd<=E[k].n\/(5<=E[k].n/\E[k].n<37)\/E[k].D.length≠64 then 1 else if S.contains E[k].n=true then 5 else rJ kd (S++[E[k].n]) ((E.drop (k+1)).map jnl):=by rw[xp hk,yF,rJ];rfl
def Xg (x:Jw):Prop:=x.n<256/\x.D.length<=1000/\∃p c,x.v=.slice p x.D.length c
theorem kG: prog.underlying 116=some (.map 3 4):=by kernel_rfl
theorem Ty (d:w.heap[gl]?=some (.cells (logC a sq) 198)):Calls prog 161 #[(gl,())] w fun e w'=>e=.returned (30:Int)/\w=w':=by have c:w.cell? (gl,2)=some (.int .i64 32):=zC d;have b:=xR d;clear d;go_enter func161,ntmps161;go_wp2;go_ret;exact⟨rfl,rfl⟩
theorem XA (h:uS w (.pointer (some a)) st kd F) (hl:w.heap[gl]?=some (.cells (logC a sq) 198)) (v) (E) (hv:wh w v 2 E.length (nl E)) (hE:∀x∈E,Xg x) (hn:E.length<=1000):
 Calls prog 138 #[(gl,()),v] w fun e w'=>e=.returned (.int .i64 (fZ kd E))/\Below w w w':=by
 have HD:=za h;have HL:=za hl;have av:=za (Ty hl);obtain⟨p,cp,rfl,HP⟩:=VA hv;have HE:=za hE;obtain⟨N,HN⟩:=zD E.length;rw[HN.o]at HP hn;rw[HN.o];have ab:=xR hl;clear h hl hv hE;have ai:=za (oE w prog 3 RV);have aw:=@run_makeMap prog;go_enter func138,ntmps138;go_wp2_with fail
 refine av.o.mono ?_;rintro e w' ⟨rfl,rfl⟩;by_cases h4:30<N
 .have d1:decide (30<(N:Int))=true:=by rw[yJ];omega
  have d2:decide (30<N)=true:=by rw[yJ];omega
  have R:Hid (fZ kd E=2):=by show _=_;unfold fZ;rw[HN.o,ze h4]
  go_wp2;go_ret;rw[R.o];exact⟨rfl,zB⟩
 have d1:decide (30<(N:Int))=false:=by rw[zM];omega
 have d2:decide (30<N)=false:=by rw[zM];omega
 have R:Hid (fZ kd E=rJ kd [] (E.map jnl)):=by show _=_;unfold fZ;rw[HN.o,zb h4]
 go_wp2;clear aw;go_loopw [16] (fun i wr=>∃k:Nat,k<=N/\i=.int .i64 k/\Hid (wr.ownsMap prog 3 RV w k (mapS ((E.take k).map fun x=>x.n)))/\Hid (rJ kd [] (E.map jnl)=rJ kd ((E.take k).map fun x=>x.n) ((E.drop k).map jnl))/\Hid (Below w w wr)) (fun i _=>N-(intOf i).toNat);case atStart=>exact⟨0,ye _,rfl,ai,rfl,zB.alloc zL _⟩
 case round=>
  obtain⟨k,hk,rfl,HM,ac,V⟩:=hrel;by_cases an:k<N
  .obtain⟨g,o,rfl,hg,hc⟩:=HP.o (by omega);have T:k<E.length:=(by rw[HN.o];exact an);obtain⟨e0,e1⟩:=Yd E k T;have af:=HE.o E[k] (zx T);have H:=TA (kd:=kd) T ((E.take k).map fun x=>x.n);rw[<-ac.o]at H;have U:(E.take (k+1)).map (fun x=>x.n)=(E.take k).map (fun x=>x.n)++[E[k].n]:=(by rw[<-zR T,yy];rfl);generalize E[k]=x at e0 e1 af H U;obtain⟨b,xv,xD⟩:=x;obtain⟨C,G,J,K,Z⟩:=af;dsimp only at Z e0 e1 H U C G;obtain⟨S,ak⟩:=zD xD.length;rw[ak.o]at Z H G;subst Z;have c0:=(V.o.cell (p:=⟨g,o+k*2,none⟩) hg).trans (hc _ _ e0);have c1:=(V.o.cell (p:=⟨g,o+(k*2+1),none⟩) hg).trans (hc _ _ e1);rw[<-yC]at c1;have a7:k<(N:Int):=(by omega);have aF:=zo hg V.o.size;have aC:¬g=wr.heap.size:=(by omega);have aD:=zo ab V.o.size;have a1:¬gl=wr.heap.size:=(by omega);have Q:=wy V.o HL.o;have l0:wr.cell? (gl,0)=some (.pointer (some a)):=zC Q;have l1:wr.cell? (gl,1)=some (.int .i64 5):=zC Q;have l2:wr.cell? (gl,2)=some (.int .i64 32):=zC Q;have A:Hid (Below w w (wr.alloc (.cells #[b,(J,S,K)] 202))):=V.o.alloc V.o.size _;have I:Hid (∀n,Calls prog 93 #[.pointer (some a)] ((wr.alloc (.cells #[b,(J,S,K)] 202)).drewN n) fun e w'=>e=.returned (.int .i64 (kd))/\w'=(wr.alloc (.cells #[b,(J,S,K)] 202)).drewN n):=fun n=>(mH ((HD.o.below A.o).drewN n)).mono fun e w' h=>⟨h.1,h.2.symm⟩;have y:=za H;have P:=za U;have b0:decide ((b:Int)<0)=false:=(by rw[zM];omega);clear hc e0 e1 H U Q;by_cases l:kd<=b
   .have q1:decide (kd<=(b:Int))=true:=(by rw[yJ];omega);have am:decide (kd<=b)=true:=(by rw[yJ];omega);have c:Hid (rJ kd [] (E.map jnl)=1):=(by show _=_;rw[y.o,ze (zr l)]);clear l;go_wp2
    go_quiet ((go_at_call 93;exact xT (I.o _)))
    go_wp2;go_ret;rw[R.o,c.o];exact⟨rfl,l6 A.o _⟩
   have q1:decide (kd<=(b:Int))=false:=(by rw[zM];omega);have am:decide (kd<=b)=false:=(by rw[zM];omega);by_cases q:5<=b/\b<37
   .have q2:decide (5<=(b:Int))=true:=(by rw[yJ];omega);have ae:decide (5<=b)=true:=(by rw[yJ];omega);have q3:decide ((b:Int)<37)=true:=(by rw[yJ];omega);have aj:decide (b<37)=true:=(by rw[yJ];omega);have c:Hid (rJ kd [] (E.map jnl)=1):=(by show _=_;rw[y.o,ze (zu (zr q))]);clear l q;go_wp2
    go_quiet ((go_at_call 93;exact xT (I.o _)))
    go_wp2;go_ret;rw[R.o,c.o];exact⟨rfl,l6 A.o _⟩
   by_cases h2:b<5
   .have q2:decide (5<=(b:Int))=false:=(by rw[zM];omega);have ae:decide (5<=b)=false:=(by rw[zM];omega);clear h2;by_cases B:S=64;case neg=>
     have q4:((S:Int)==64)=false:=(by rw[xr];omega);have q5:((S:Int) != 64)=true:=(by simp[bne,q4]);have c:Hid (rJ kd [] (E.map jnl)=1):=(by show _=_;rw[y.o,ze (zu (zu B))]);clear l q B;go_wp2
     go_quiet ((go_at_call 93;exact xT (I.o _)))
     go_wp2;go_ret;rw[R.o,c.o];exact⟨rfl,l6 A.o _⟩
    subst B;have f:Hid (rJ kd [] (E.map jnl)=if ((E.take k).map fun x=>x.n).contains b=true then 5 else rJ kd (((E.take k).map fun x=>x.n)++[b]) ((E.drop (k+1)).map jnl)):=(by show _=_;rw[y.o,zb (by intro h;rcases h with h|h|h;exact l h;exact q h;exact h rfl)]);clear l q y;obtain⟨cb,M⟩:=zD (((E.take k).map fun x=>x.n).contains b);rw[M.o]at f;have s:Hid (keyOf prog 3 (.int .i64 b)=some (keyL b)):=keyOf_int_mk (by kernel_rfl) (iD b C);go_wp2
    go_quiet ((go_at_call 93;exact xT (I.o _)))
    have D:=za (l6 A.o nq);have L:Hid (((wr.alloc (.cells #[b,.slice J 64 K] 202)).drewN nq).ownsMap prog 3 RV w k (mapS ((E.take k).map fun x=>x.n))):=HM.o.alloc _;have x0:((wr.alloc (.cells #[b,.slice J 64 K] 202)).drewN nq).cell? (wr.heap.size,0)=some (.int .i64 b):=zC (zT wr _);have xz:wr.heap.size<((wr.alloc (.cells #[b,.slice J 64 K] 202)).drewN nq).heap.size:=(by simp[World.drewN]);obtain⟨vb,au,O,j⟩:=L.o.lookup (t:=116) (e:=4) Ze kG (z:=.bool false) (by kernel_rfl) (zd:=.held (.bool false)) (zp:=[]) rfl s.o;rw[YZ,M.o]at j;have m:vb=.bool cb:=(by unfold RV at j;simp at j;exact j.1);rw[m]at O;generalize (wr.alloc (.cells #[b,.slice J 64 K] 202)).drewN nq=w5 at *
    have X:=D.o.size;clear j m c0 c1 l0 l1 l2;cases cb with
    | true=>
     have c:Hid (rJ kd [] (E.map jnl)=5):=(by show _=_;rw[f.o,ze rfl]);go_wp2;go_ret;rw[R.o,c.o];exact⟨rfl,D.o⟩
    | false=>
     have c:Hid (rJ kd [] (E.map jnl)=rJ kd ((E.take (k+1)).map fun x=>x.n) ((E.drop (k+1)).map jnl)):=(by show _=_;rw[f.o,zb (by simp),P.o]);go_wp2_with (at_mapUpdate;refine qF _ rfl _ _ _ 116 rfl 3 4 Ze kG RV w k (mapS ((E.take k).map fun x=>x.n)) rfl L.o (by unfold maxLen;omega) _ _ (keyL b) rfl rfl s.o _ [] rfl ?_;intro w6 u d)
     have Y:Hid (w6.ownsMap prog 3 RV w (k+1) (mapS ((E.take (k+1)).map fun x=>x.n))):=(by show World.ownsMap _ _ _ _ _ _ _;rw[P.o,KI];exact u);have W:=za (D.o.grown d X (by intro r hr;simp at hr;omega));clear u d;go_wp2;go_roundw;case rel=>exact⟨k+1,by omega,by go_num,Y,c,W⟩
     case measure=>simp[intOf];omega
   .have q2:decide (5<=(b:Int))=true:=(by rw[yJ];omega);have ae:decide (5<=b)=true:=(by rw[yJ];omega);have q3:decide ((b:Int)<37)=false:=(by rw[zM];omega);have aj:decide (b<37)=false:=(by rw[zM];omega);clear h2;by_cases B:S=64;case neg=>
     have q4:((S:Int)==64)=false:=(by rw[xr];omega);have q5:((S:Int) != 64)=true:=(by simp[bne,q4]);have c:Hid (rJ kd [] (E.map jnl)=1):=(by show _=_;rw[y.o,ze (zu (zu B))]);clear l q B;go_wp2
     go_quiet ((go_at_call 93;exact xT (I.o _)))
     go_wp2;go_ret;rw[R.o,c.o];exact⟨rfl,l6 A.o _⟩
    subst B;have f:Hid (rJ kd [] (E.map jnl)=if ((E.take k).map fun x=>x.n).contains b=true then 5 else rJ kd (((E.take k).map fun x=>x.n)++[b]) ((E.drop (k+1)).map jnl)):=(by show _=_;rw[y.o,zb (by intro h;rcases h with h|h|h;exact l h;exact q h;exact h rfl)]);clear l q y;obtain⟨cb,M⟩:=zD (((E.take k).map fun x=>x.n).contains b);rw[M.o]at f;have s:Hid (keyOf prog 3 (.int .i64 b)=some (keyL b)):=keyOf_int_mk (by kernel_rfl) (iD b C);go_wp2
    go_quiet ((go_at_call 93;exact xT (I.o _)))
    have D:=za (l6 A.o nq);have L:Hid (((wr.alloc (.cells #[b,.slice J 64 K] 202)).drewN nq).ownsMap prog 3 RV w k (mapS ((E.take k).map fun x=>x.n))):=HM.o.alloc _;have x0:((wr.alloc (.cells #[b,.slice J 64 K] 202)).drewN nq).cell? (wr.heap.size,0)=some (.int .i64 b):=zC (zT wr _);have xz:wr.heap.size<((wr.alloc (.cells #[b,.slice J 64 K] 202)).drewN nq).heap.size:=(by simp[World.drewN]);obtain⟨vb,au,O,j⟩:=L.o.lookup (t:=116) (e:=4) Ze kG (z:=.bool false) (by kernel_rfl) (zd:=.held (.bool false)) (zp:=[]) rfl s.o;rw[YZ,M.o]at j;have m:vb=.bool cb:=(by unfold RV at j;simp at j;exact j.1);rw[m]at O;generalize (wr.alloc (.cells #[b,.slice J 64 K] 202)).drewN nq=w5 at *
    have X:=D.o.size;clear j m c0 c1 l0 l1 l2;cases cb with
    | true=>
     have c:Hid (rJ kd [] (E.map jnl)=5):=(by show _=_;rw[f.o,ze rfl]);go_wp2;go_ret;rw[R.o,c.o];exact⟨rfl,D.o⟩
    | false=>
     have c:Hid (rJ kd [] (E.map jnl)=rJ kd ((E.take (k+1)).map fun x=>x.n) ((E.drop (k+1)).map jnl)):=(by show _=_;rw[f.o,zb (by simp),P.o]);go_wp2_with (at_mapUpdate;refine qF _ rfl _ _ _ 116 rfl 3 4 Ze kG RV w k (mapS ((E.take k).map fun x=>x.n)) rfl L.o (by unfold maxLen;omega) _ _ (keyL b) rfl rfl s.o _ [] rfl ?_;intro w6 u d)
     have Y:Hid (w6.ownsMap prog 3 RV w (k+1) (mapS ((E.take (k+1)).map fun x=>x.n))):=(by show World.ownsMap _ _ _ _ _ _ _;rw[P.o,KI];exact u);have W:=za (D.o.grown d X (by intro r hr;simp at hr;omega));clear u d;go_wp2;go_roundw;case rel=>exact⟨k+1,by omega,by go_num,Y,c,W⟩
     case measure=>simp[intOf];omega
  .have HF:Hid (rJ kd [] (E.map jnl)=0):=(by show _=_;rw[ac.o,yP (by rw[HN.o];omega)];rfl);go_wp2;go_ret;rw[R.o,HF.o];exact⟨rfl,V.o⟩
