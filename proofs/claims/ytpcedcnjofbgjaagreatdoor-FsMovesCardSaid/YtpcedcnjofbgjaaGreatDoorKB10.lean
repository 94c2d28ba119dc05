import Derived.Test.YtpcedcnjofbgjaaGreatDoorKB3
import Derived.Test.YtpcedcnjofbgjaaGreatDoorKB9
set_option maxHeartbeats 0
set_option linter.all false
set_option maxRecDepth 100000
namespace Go.Proofs.YtpcedcnjofbgjaaGreatDoor
open Go.Proofs.Tryz Go.RowKit
variable {A:Nat->AN} {F:Nat->Prop} {a:Addr} {gf j:Nat} {o:Oper} {s:Fs} {w:World}
section
variable {P : Program}
end
theorem Wy {a:Act} (x:Operand) (b:o.op=.load 3 x) (p:Addr) (c:a.eval x=.pointer (some p)) (v:Value) (d:w.cell? p=some v):(execOp a.eval o).run prog w=.ok (.value v) w:=by simp only[execOp,b,c,Instr.loadAt,Instr.sureAddr,Nn,vP,yM];simp[go_sem,d]
theorem Gx {a:Act} (x:Operand) (b:o.op=.load 9 x) (p:Addr) (c:a.eval x=.pointer (some p)) (v:Value) (d:w.cell? p=some v):(execOp a.eval o).run prog w=.ok (.value v) w:=by simp only[execOp,b,c,Instr.loadAt,Instr.sureAddr,Nn,vP,yM];simp[go_sem,d]
theorem Zd {w':World} (h:Below w w w') {p:Addr} {v:Value} (a:w.cell? p=some v):w'.cell? p=some v:=(h.cell (zy a)).trans a
def spS : ByteArray:=⟨#[32]⟩
def barS : ByteArray:=⟨#[124]⟩
def eqS : ByteArray:=⟨#[61]⟩
def Xh (j:Nat) (a:AN):ByteArray:=⟨#[10]⟩++numS (j+1)++spS++numS a.k.toNat++spS++numS a.m.toNat++spS++numS a.u.toNat++spS++numS a.g.toNat++spS++numS a.s.toNat++spS++numS a.l.toNat++spS
def iC (a:AN):ByteArray:=if a.k=3 then tu a.D else ⟨#[]⟩
def upT (a:AN):Int:=if a.k=2 then a.up else 0
def entT (e:En):ByteArray:=spS++e.1++eqS++numS e.2.toNat
def E8 (s:ByteArray) (j:Nat) (a:AN):ByteArray:=if a.k=0 then s else (kW a).foldl (λs e=>s++entT e) (s++Xh j a++(Qz a++barS++iC a++barS++numS (upT a).toNat))
def Zn (A:Nat->AN):Nat->ByteArray
 | 0=>⟨#[]⟩
 | j+1=>E8 (Zn A j) j (A j)
def NX (U:Nat->Nat) (s:ByteArray):Nat->ByteArray
 | 0=>s
 | u+1=>NX U s u++(⟨#[10,117,115,101,100,32]⟩++numS (U u))
def allT (A:Nat->AN) (U:Nat->Nat):ByteArray:=NX U (Zn A 32) 3
theorem ms.fit (h:ms s A) (H:j<32):(A j).k=0\/(1<=(A j).k/\(A j).k<=3)/\(0<=(A j).m/\(A j).m<=511)/\(0<=(A j).u/\(A j).u<=255)/\(0<=(A j).g/\(A j).g<=255)/\(0<=(A j).s/\(A j).s<=512)/\(0<=(A j).l/\(A j).l<=200)/\(0<=upT (A j)/\upT (A j)<=32):=by
 let⟨a,o,B,q,t,E,r,_⟩:=h.at_ j H;rcases h.fld j H with b|⟨⟨F,G,v,x,w,D,p,f,y,e⟩,i,z,c,C,n⟩
 .rw[b]at a;exact zu a.symm
 .refine zw ⟨by omega,by omega,by omega,by omega,by omega,by omega,?_⟩;unfold upT;split
  .next d=>have:=c (a.trans d);omega
  .omega
theorem KY {e:En} (h:tM e.1=true/\1<=e.2/\e.2<=32):(entT e).size<=60:=by have a:=(Ro h.1).1;have b:=(qA e.2.toNat).2;rw[entT,Mn,Mn,Mn];show 1+e.1.size+1+_<=60;omega
theorem UJ (h:ms s A) (q:j<32) (r:(A j).k≠0):(Xh j (A j)).size<=1900:=by have i:=(h.fit q).resolve_left r;have e:=(qA (j+1)).2;have d:=(qA (A j).k.toNat).2;have n:=(qA (A j).m.toNat).2;have p:=(qA (A j).u.toNat).2;have f:=(qA (A j).g.toNat).2;have a:=(qA (A j).s.toNat).2;have c:=(qA (A j).l.toNat).2;unfold Xh;simp only[Mn];have b:spS.size=1:=rfl;have o:(⟨#[10]⟩:ByteArray).size=1:=rfl;omega
theorem Tc (h:ms s A) (d:j<32) (e:(A j).k≠0):(Qz (A j)).size<=512/\(iC (A j)).size<=512/\(numS (upT (A j)).toNat).size<=33:=by
 have b:=(h.fit d).resolve_left e;have a:=h.dlen d;have c:=(qA (upT (A j)).toNat).2;refine⟨?_,?_,by omega⟩
 .unfold Qz;split
  .rwa[rj]
  .exact yh _
 .unfold iC;split
  .rwa[rj]
  .exact yh _
theorem Z3 {l:List En} (h:∀e∈l,tM e.1=true/\1<=e.2/\e.2<=32):∀(s),(l.foldl (λs e=>s++entT e) s).size<=s.size+60*l.length:=by
 induction l with
 | nil=>exact λs=>zL
 | cons e l a=>
  intro s;have b:=a (λx c=>h x (xj _ c)) (s++entT e);have d:=KY (h e (xK ..));rw[Mn]at b;rw[ww,yv];omega
theorem ms.ents (h:ms s A) (f:j<32):(kW (A j)).length<=32/\∀e∈kW (A j),tM e.1=true/\1<=e.2/\e.2<=32:=by
 unfold kW;split
 .next d=>
  let⟨a,b,_⟩:=(qO _).1 (su (h.dirs j f d).ok).2.1;exact⟨a,λx c=>kK (b x c)⟩
 .exact⟨yh _,λx c=>yi c oK⟩
theorem Qr {s:Fs} {A:Nat->AN} (h:ms s A):∀j,j<=32->(Zn A j).size<=6000*j
 | 0,_=>zL
 | j+1,g=>by
  have f:=Qr h j (by omega);unfold Zn E8;split
  .omega
  .next a=>
   have c:=h.ents (j:=j) (by omega);have b:=Z3 c.2 (Zn A j++Xh j (A j)++(Qz (A j)++barS++iC (A j)++barS++numS (upT (A j)).toNat));have l:=UJ h (j:=j) (by omega) a;let⟨i,k,d⟩:=Tc h (j:=j) (by omega) a;simp[Mn]at b;have e:barS.size=1:=rfl;omega
theorem DG (h:FsAt w gf s F a) (i:Nat) (hi:i<32) (X) (hX:s.nodes[i]?=some X) (hk:X.k=3) (hP:Zm X.P s.k) (aa:X.P.length<=8) (hs:0<=X.s/\X.s<=64*X.P.length):
 Calls prog 56 #[(gf,()),(i+1:Int)] w (κ w (.tuple #[.string (tu (sF (secE s) X.P X.s)),()])):=by
 have c:=za (sU h i hi X hX);rw[show decide (X.k≠0)=true by rw[hk];rfl]at c;let⟨U,M,R,yq,K,N,t,G,x,V,Q,Y,Z,J,O,L,C⟩:=sx h i hi X hX;have S:IntKind.i64.wrap (i+1-1)=i:=by rw[zM _ (by omega)];omega
 rw[hk]at x;have m:Hid (∀(f) (T) (W),Below w w W->TxAt W w F f (gf,()) ⟨s.fo,s.rows,s.nodes,[],[],[],false,256⟩ T ->
  Calls prog 106 #[(f,()),(i+1:Int)] W (λe w'=>∃v,e=.returned v/\uM w' v (sF (secE s) X.P X.s)/\Below W W w')):=λf T W z A=>by
  have:=kO A (h.below z) i hi X hX (Ql hP h.k1) aa hs;have H:secT ⟨s.fo,s.rows,s.nodes,[],[],[],false,256⟩ s=secE s:=by funext n;rfl
  rw[H]at this;exact this.mono λe w' ⟨v,B,y,E⟩=>⟨v,B,uq.of_owns y,E⟩
 generalize sF (secE s) X.P X.s=D at *
 go_enter func56,ntmps56;go_wp2_with fail
 refine c.o.mono ?_;rintro e r ⟨rfl,rfl⟩;go_wp2_with fail
 refine (za (tH h)).o.mono ?_;rintro e r ⟨f,T,rfl,j,b⟩;have d:=za j;go_wp2_with fail
 refine (m.o f T r d.o (za b).o).mono ?_;rintro e w2 ⟨v,rfl,u,g⟩;have I:=O7 D u;go_wp2;go_ret2;exact⟨rfl,(za (zi d.o g)).o⟩
theorem Vz (h:FsAt w gf s F a) (i:Nat) (m:i<32) (X) (l:s.nodes[i]?=some X) (n:X.k≠2):
 Calls prog 53 #[(gf,()),(i+1:Int)] w (λe w'=>e=.returned (.tuple #[.slice none 0 0,(if X.k=0 then 4 else 12:Int)])/\w=w'):=by
 have b:=za (rn h i m X l);rw[zb n]at b;let⟨y,d⟩:=zD (if X.k=0 then 4 else 12:Int);have c:y≠0:=by rw[<-d.o];split<;>decide
 rw[d.o]at b |-;have j:(y==0)=false:=by simpa using c
 have g:(y != 0)=true:=by simpa using c
 go_enter func53,ntmps53;go_wp2_with fail
 refine b.o.mono ?_;rintro e f ⟨rfl,rfl⟩;go_wp2;go_ret2;simp
section
variable {w : World} {gf : Nat} {s : Fs} {F : Nat->Prop} {a : Addr} {A : Nat->AN} {j : Nat}
theorem ms.pl (h:ms s A):∀X∈s.nodes,X.P.length<=8:=λX b=>by obtain⟨j,a,rfl⟩:=Mu.1 b;have:=(h.fP (j:=j) (by rwa[<-h.len])).1;rwa[zt,zk a]at this
variable (hf : FsAt w gf s F a) (h : ms s A) (hj : j<32)
include hf h hj
theorem WT: Calls prog 25 #[(gf,()),(j+1:Int)] w (κ w (if (A j).k=0 then .tuple #[.agg #[(),(),(),(),(),()],(4:Int)] else .tuple #[.agg #[.int .i64 (A j).k,.int .i64 (A j).m,.int .i64 (A j).u,.int .i64 (A j).g,.int .i64 (A j).s,.int .i64 (A j).l],()])):=by let⟨d,b,i,c,f,a,_⟩:=h.at_ j hj;have:=KR hf j hj _ (h.nd hj);unfold Va at this;rw[d,b,i,c,f,a]at this;exact this
theorem Yr: Calls prog 56 #[(gf,()),(j+1:Int)] w (λe w'=>∃y,e=.returned (.tuple #[.string (iC (A j)),(y:Int)])/\Below w w w'):=by
 let⟨b,_,_,_,m,_,_,f⟩:=h.at_ j hj;let⟨d,g,c⟩:=h.fP hj;unfold iC;by_cases a:(A j).k=3
 .rw[ze a];refine (DG hf j hj _ (h.nd hj) (b.trans a) (h.pts j hj) d ⟨g.1,c⟩).mono ?_;rintro e w' ⟨rfl,i⟩;exact⟨0,by rw[f],i⟩
 .rw[zb a];refine (UT hf j hj _ (h.nd hj) λl=>a (b.symm.trans l)).mono ?_;rintro e w' ⟨rfl,rfl⟩;exact⟨_,rfl,zB⟩
theorem FN: Calls prog 53 #[(gf,()),(j+1:Int)] w (λe w'=>∃v y,e=.returned (.tuple #[v,(y:Int)])/\qM w' v (kW (A j))/\Below w w w'):=by
 let⟨c,_⟩:=h.at_ j hj;unfold kW;by_cases a:(A j).k=2
 .rw[ze a];refine (GS hf j _ _ (h.dirs j hj a)).mono ?_;rintro e w' ⟨v,rfl,b,d⟩;exact⟨v,0,rfl,b,d⟩
 .rw[zb a];refine (Vz hf j hj _ (h.nd hj) λf=>a (c.symm.trans f)).mono ?_;rintro e w' ⟨rfl,rfl⟩;exact⟨_,_,rfl,⟨rfl,zu ⟨rfl,none,0,rfl⟩⟩,zB⟩
theorem all_up: Calls prog 26 #[(gf,()),(j+1:Int)] w (λe w'=>∃y,e=.returned (.tuple #[(upT (A j):Int),(y:Int)])/\w=w'):=by let⟨a,_,_,_,_,_,b,_⟩:=h.at_ j hj;refine (fs_Up hf j hj _ (h.nd hj)).mono ?_;rintro e w' ⟨rfl,rfl⟩;rw[upT,a,b];exact⟨_,rfl,rfl⟩
end
theorem hQ (hf:FsAt w gf s F a) (h:ms s A):
 Calls prog 23 #[(gf,())] w (κ w (.string (allT A λu=>nt s.nodes u 32))):=by
 have H:=za hf;have D:=za h;clear hf h;go_enter func23,ntmps23;go_wp2;go_loopw [3,4] (λsv J wr=>∃(j:Nat) (t:ByteArray),j<=32/\J=.int .i64 ((j:Int)+1)/\sv=.string t/\t.size<=200000/\Hid (Zn A j=t)/\Hid (Below w w wr)) (λ_ J _=>40-(intOf J).toNat)
 .exact⟨0,⟨#[]⟩,by omega,rfl,rfl,by decide,rfl,zB⟩
 .obtain⟨j,t,hj,rfl,rfl,ht,HT,HB⟩:=hrel;by_cases b:j<32
  .have aP:(j:Int)+1<=32:=(by omega);have iw:=zW (j+1+1) (by omega);have S:=za (WT (H.o.below HB.o) D.o b);have K:=D.o.fit b;have G:=Tc D.o b;have I:=UJ D.o b;have y:=D.o.ents (j:=j) b;have c:Hid (Zn A (j+1)=E8 t j (A j)):=(by show _=_;rw[<-HT.o];rfl);have i:=za (Qr D.o (j+1) (by omega));rw[c.o]at i;by_cases C:(A j).k=0
   .rw[ze C]at S;have P:Hid (Zn A (j+1)=t):=(by show _=_;rw[c.o];unfold E8;rw[ze C]);clear K G y I;go_wp2_with fail
    refine S.o.mono ?_;rintro e w1 ⟨rfl,n⟩;have v:=za (zi HB.o n);clear n;go_wp2;go_roundw
    .exact⟨j+1,_,by omega,by go_num,rfl,ht,P,v.o.alloc v.o.size _⟩
    .simp[intOf];omega
   .rw[zb C]at S;have ar:=za (λW (B:Below w w W)=>WU (H.o.below B) D.o b);obtain⟨q4,a4⟩:∃q:Int,Hid ((if (A j).k=0 then 4 else if (A j).k=1 then 0 else 12)=q):=⟨_,za rfl⟩;rw[a4.o]at ar;clear a4;have bj:=za (λW (B:Below w w W)=>Yr (H.o.below B) D.o b);have ba:=za (λW (B:Below w w W)=>FN (H.o.below B) D.o b);have aR:=za (λW (B:Below w w W)=>all_up (H.o.below B) D.o b);unfold E8 at c i;rw[zb C]at c i;obtain⟨z1,z2,z3,z4,z5,z6,z7⟩:=K.resolve_left C;obtain⟨y1,y2,y3⟩:=G C;have y4:=I C;have V:Hid (Xh j (A j)=⟨#[10]⟩++numI (j+1)++⟨#[32]⟩++numI (A j).k++⟨#[32]⟩++numI (A j).m++⟨#[32]⟩++numI (A j).u++⟨#[32]⟩++numI (A j).g++⟨#[32]⟩++numI (A j).s++⟨#[32]⟩++numI (A j).l++⟨#[32]⟩):=rfl;have aW:Hid ((Qz (A j)++barS++iC (A j)++barS++numS (upT (A j)).toNat)=Qz (A j)++⟨#[124]⟩++iC (A j)++⟨#[124]⟩++numI (upT (A j))):=rfl;have aV:=kT _ z7.1 (by omega);generalize upT (A j)=xu at *
    generalize Qz (A j)=FT at *
    generalize iC (A j)=TT at *
    generalize kW (A j)=E at *
    rw[aW.o]at c i;obtain⟨HX,bk⟩:=zD (Xh j (A j));rw[bk.o]at c i V y4;generalize (A j).k=xk at *
    generalize (A j).m=xm at *
    generalize (A j).u=xo at *
    generalize (A j).g=xg at *
    generalize (A j).s=xs at *
    generalize (A j).l=xl at *
    have n0:=kT ((j:Int)+1) (by omega) (by omega);have n1:=kT xk (by omega) (by omega);have n2:=kT xm (by omega) (by omega);have n3:=kT xo (by omega) (by omega);have n4:=kT xg (by omega) (by omega);have n5:=kT xs (by omega) (by omega);have n6:=kT xl (by omega) (by omega);have HU:Hid (∀z,z=(j:Int)+1\/z=xk\/z=xm\/z=xo\/z=xg\/z=xs\/z=xl\/z=xu->∀W,Calls prog 17 #[(z:Int)] W (κ W (.string (numI z)))):=λz hz W=>SF z (by omega) (by omega) W;clear K G I C z1 z2 z3 z4 z5 z6;go_wp2_with fail
    refine S.o.mono ?_;rintro e w1 ⟨rfl,n⟩;have v:=za (zi HB.o n);clear n;have Y:=za (v.o.alloc v.o.size (.cells #[xk,xm,xo,xg,xs,xl] 52));have d:(w1.alloc (.cells #[xk,xm,xo,xg,xs,xl] 52)).heap[w1.heap.size]?=some (.cells #[xk,xm,xo,xg,xs,xl] 52):=zH;have c0:=xQ _ _ 0 _ _ _ d;have c1:=xQ _ _ 1 _ _ _ d;have c2:=xQ _ _ 2 _ _ _ d;have c3:=xQ _ _ 3 _ _ _ d;have c4:=xQ _ _ 4 _ _ _ d;have c5:=xQ _ _ 5 _ _ _ d;clear d
    go_upto_region 7 with fail
    generalize w1.alloc (.cells #[xk,xm,xo,xg,xs,xl] 52)=w2 at *
    refine vg (by kernel_rfl) (by kernel_rfl) ?_
    repeat (first
     | go_big_quiet_skip
     | (refine tN rfl _ (λw' r=>Wy _ rfl ⟨w1.heap.size,_,none⟩ rfl _ (Zd (us r) (by first|exact c0|exact c1|exact c2|exact c3|exact c4|exact c5))) ?_;simp only[Act.put,zP,yf,yb])
     | (refine mI _ rfl rfl _ rfl (λ_ _=>vY) (HU.o _ (by simp)) ?_;simp only[Act.put,zP,yf,yb])
     | (go_big_quiet_want;go_big_quiet_op;go_big_quiet_on))
    refine vn ?_;intro w3 a0;have a1:=za (zi Y.o (us a0));clear a0 c0 c1 c2 c3 c4 c5 n0 n1 n2 n3 n4 n5 n6;rw[<-V.o];obtain⟨T1,ad⟩:=zD (t++HX);have bn:T1.size<=202000:=(by rw[<-ad.o,Mn];omega);rw[ad.o]at c i |-;clear V ad;go_wp2_with fail
    refine (ar.o w3 a1.o).mono ?_;rintro e w4 ⟨v4,rfl,ax,aE⟩;have a6:=za (zi a1.o aE);have av:=za ax;clear ax aE;go_wp2_with fail
    refine (bj.o w4 a6.o).mono ?_;rintro e w5 ⟨q5,rfl,af⟩;have aB:=za (zi a6.o af);have a2:Hid (∀W,Below w5 w5 W->(convert 38 9 v4).run prog W=.ok (.string FT) W):=λW B=>av.o W (zi af B);clear af av;go_wp2_with fail
    refine (ba.o w5 aB.o).mono ?_;rintro e w6 ⟨lv,q6,rfl,aF,ab⟩;have ap:=za (zi aB.o ab);have ao:Hid (∀W,Below w6 w6 W->(convert 38 9 v4).run prog W=.ok (.string FT) W):=λW B=>a2.o W (zi ab B);obtain⟨N,HN⟩:=zA E.length;have b0:N<=32:=(by rw[HN.o];exact y.1);have aX:=za y.2;obtain⟨lp,lc,rfl,aG⟩:=kJ aF N HN.o;have az:=za aG;clear aF ab a2 aG y;go_wp2_with fail
    refine (aR.o w6 ap.o).mono ?_;rintro e w7 ⟨q7,rfl,rfl⟩
    go_upto_region 12 with fail
    refine vg (by kernel_rfl) (by kernel_rfl) ?_
    repeat (first
     | go_big_quiet_skip
     | (refine tN rfl (.string FT) (λw' r=>TH 38 9 _ rfl v4 (.string FT) rfl (ao.o w' (us r))) ?_;simp only[Act.put,zP,yf,yb])
     | (refine mI _ rfl rfl _ rfl (λ_ _=>vY) (HU.o _ (by simp)) ?_;simp only[Act.put,zP,yf,yb])
     | (go_big_quiet_want;go_big_quiet_op;go_big_quiet_on))
    refine vn ?_;intro w8 aa;have bc:=za (zi ap.o (us aa));have bh:Hid (0<N->∃g o,lp=some ⟨g,o,none⟩/\g<w8.heap.size/\∀k (C),w8.cell? ⟨g,o+k*2,none⟩=some (.string E[k].1)/\w8.cell? ⟨g,o+(k*2+1),none⟩=some (.int .i64 E[k].2)):=λh0=>(by obtain⟨g,o,e1,e2,e3⟩:=az.o h0;have hb:=us aa;exact⟨g,o,e1,zr e2 hb.size,λk C=>⟨(hb.cell (p:=⟨g,_,none⟩) e2).trans (e3 k C).1,(hb.cell (p:=⟨g,_,none⟩) e2).trans (e3 k C).2⟩⟩);obtain⟨T2,am⟩:=zD (T1++(FT++⟨#[124]⟩++TT++⟨#[124]⟩++numI xu));have aO:T2.size<=205000:=(by rw[<-am.o];simp only[Mn];have e1:(⟨#[124]⟩:ByteArray).size=1:=rfl;omega);rw[am.o]at c i |-;clear aa ao az bn y1 y2 y3 y4 aV;go_wp2;go_loopw [3,105] (λsv J wq=>∃(q:Nat) (t:ByteArray),q<=N/\J=.int .i64 q/\sv=.string t/\t.size<=205000+60*q/\Hid ((E.take q).foldl (λs e=>s++entT e) T2=t)/\Hid (Below w8 w8 wq)) (λ_ J _=>N-(intOf J).toNat)
    .exact⟨0,T2,by omega,rfl,rfl,by omega,by show _=_;rw[xH];rfl,zB⟩
    .obtain⟨q,tq,hq,rfl,rfl,aQ,Z,f⟩:=hrel;by_cases bl:q<N
     .have Q:q<E.length:=(by rw[<-HN.o];exact bl);have bb:q<(N:Int):=(by omega);obtain⟨g,o,rfl,hg,hc⟩:=bh.o (by omega);have k0:=(f.o.cell (p:=⟨g,_,none⟩) hg).trans (hc q Q).1;have k1:=(f.o.cell (p:=⟨g,_,none⟩) hg).trans (hc q Q).2;rw[<-yp]at k1;have R:=aX.o _ (Nj Q);have L:=KY R;obtain⟨x,Hx⟩:=zD (E[q]);rw[Hx.o]at k0 k1 R L;have P:Hid ((E.take (q+1)).foldl (λs e=>s++entT e) T2=tq++entT x):=(by show _=_;rw[<-zU Q,xf,Hx.o,Z.o];rfl);obtain⟨X,O⟩:=x;dsimp only at k0 k1 R;have bo:Hid (entT (X,O)=⟨#[32]⟩++X++⟨#[61]⟩++numI O):=rfl;rw[bo.o]at P L;have T:=L;simp only[Mn]at T;have bR:X.size<=60:=(by omega);have n0:=kT O (by omega) (by omega);have aS:Hid (∀W,Calls prog 17 #[O] W (κ W (.string (numI O)))):=λW=>SF O (by omega) (by omega) W;have Y:=za (f.o.alloc f.o.size (.cells #[.string X,O] 112));have d:(wr.alloc (.cells #[.string X,O] 112)).heap[wr.heap.size]?=some (.cells #[.string X,O] 112):=zH;have c0:=xQ _ _ 0 _ _ _ d;have c1:=xQ _ _ 1 _ _ _ d;have bi:=za L;clear d L T R hc;go_wp2_with fail
      generalize wr.alloc (.cells #[.string X,O] 112)=w9 at *
      refine vg (by kernel_rfl) (by kernel_rfl) ?_
      repeat (first
       | go_big_quiet_skip
       | (refine tN rfl _ (λw' r=>Gx _ rfl ⟨wr.heap.size,_,none⟩ rfl _ (Zd (us r) c0)) ?_;simp only[Act.put,zP,yf,yb])
       | (refine tN rfl _ (λw' r=>Wy _ rfl ⟨wr.heap.size,_,none⟩ rfl _ (Zd (us r) c1)) ?_;simp only[Act.put,zP,yf,yb])
       | (refine mI _ rfl rfl _ rfl (λ_ _=>vY) aS.o ?_;simp only[Act.put,zP,yf,yb])
       | (go_big_quiet_want;go_big_quiet_op;go_big_quiet_on))
      refine vn ?_;intro bP U;have a7:=za (zi Y.o (us U));clear U c0 c1 k0 k1;go_wp2;go_roundw
      .exact⟨q+1,_,by omega,by go_num,rfl,by rw[Mn];have:=bi.o;omega,P,a7⟩
      .simp[intOf];omega
     .obtain rfl:q=N:=(by omega);have bb:¬q<(q:Int):=(by omega);have ay:Hid (Zn A (j+1)=tq):=(by show _=_;rw[c.o];have:=Z.o;rw[HN.o,xN]at this;exact this);have aL:tq.size<=200000:=(by have:=i.o;rw[<-c.o,ay.o]at this;omega);have bp:=za (zi bc.o f.o);clear aQ Z aO;go_wp2;go_roundw
      .exact⟨j+1,tq,by omega,by go_num,rfl,aL,ay,bp⟩
      .simp[intOf];omega
  .obtain rfl:j=32:=(by omega);have aP:¬((32:Nat):Int)+1<=32:=(by omega);have bf:=za (λ(W:World) (u:Nat) (B:Below w w W) (hu:u<256)=>JY (H.o.below B) D.o.pl u (by omega));have bd:=za (Mm D.o.pl);go_wp2_with fail
   go_loopw [3,120] (λsv J wq=>∃(u:Nat) (x:ByteArray),u<=3/\J=.int .i64 u/\sv=.string x/\x.size<=200000+1000*u/\Hid (NX (λu=>nt s.nodes (u:Int) 32) t u=x)/\Hid (Below w w wq)) (λ_ J _=>5-(intOf J).toNat)
   .exact⟨0,t,by omega,rfl,rfl,by omega,rfl,HB⟩
   .obtain⟨u,x,hu,rfl,rfl,hx,an,f⟩:=hrel;by_cases bJ:u<3
    .have a3:(u:Int)<3:=(by omega);have HU:=za (bf.o wr u f.o (by omega));have aA:=bd.o (u:Int) 32;obtain⟨N,HN⟩:∃N:Nat,Hid (nt s.nodes (u:Int) 32=N):=⟨_,rfl⟩;rw[HN.o]at HU aA;have aq:=za (λW=>TY N (by omega) W);obtain⟨M,HM⟩:=zD (numS N);have hM:M.size<=257:=(by rw[<-HM.o];have:=(qA N).2;omega);rw[HM.o]at aq;have c:Hid (NX (λu=>nt s.nodes u 32) t (u+1)=x++(⟨#[10,117,115,101,100,32]⟩++M)):=(by show _=_;unfold NX;rw[an.o,HN.o,HM.o]);go_wp2_with fail
     refine HU.o.mono ?_;rintro e w1 ⟨rfl,n⟩;have v:=za (zi f.o n);clear n aA;go_wp2_with fail
     refine (aq.o w1).mono ?_;rintro e w2 ⟨rfl,aw⟩;have aZ:=za (zi v.o aw);clear aw;go_wp2;go_roundw
     .exact⟨u+1,_,by omega,by go_num,rfl,by rw[Mn,Mn,show (⟨#[10,117,115,101,100,32]⟩:ByteArray).size=6 from rfl];omega,c,aZ⟩
     .simp[intOf];omega
    .obtain rfl:u=3:=(by omega);have a3:¬((3:Nat):Int)<3:=(by omega);have HR:Hid (allT A (λu=>nt s.nodes u 32)=x):=(by show _=_;unfold allT;rw[HT.o,an.o]);go_wp2;go_ret;rw[HR.o];exact⟨rfl,f.o⟩
