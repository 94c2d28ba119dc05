import Derived.Test.YtmanoiagchpelaaGreatDoorKA31
set_option maxHeartbeats 0
set_option linter.all false
set_option maxRecDepth 100000
namespace Go.Proofs.YtmanoiagchpelaaGreatDoor
open Go.Proofs.Tryz Go.RowKit
variable {B gp gt:Nat} {F T:Nat->Prop} {w:World} {x:Tx}
structure EndOk (x:Tx) (s:Fs):Prop where
 nd:∀X∈x.nodes,ZC X=0
 gone:∀p∈x.gone,0<=p/\p<256
 rf:qa (endT s.k x).fo=0
 rq:rd x.rows=0
 sync:30<(uR s.todo (tE (endT s.k x) s)).length->kZ s
def endE (s:Fs) (x:Tx):Int:=if mD s x=false then 16 else if (vP s.k x 16).full=true then 6 else 0
def endS (s:Fs) (x:Tx):Fs:=if endE s x=0 then mo (endT s.k x) s else s
theorem QM (h:∀y∈x.dirty,y.2=.bool true) (k):(getZ x.dirty k).getD (.bool false)=.bool (getZ x.dirty k).isSome:=by
 cases a:getZ x.dirty k with
 | none=>rfl
 | some v=>exact h _ (nu a)
def epL (gt gp j:Nat) (p:Int) (ga gb:Nat):List (Option Value):=
 let t:Option Value:=some (.pointer (some ⟨gt,0,none⟩))
 let o:Option Value:=some (.pointer (some ⟨gt,1,none⟩))
 [t,t,some (.pointer (some ⟨gt,196,none⟩)),some (.map (some gp)),t,some (.int .i64 j),t,o,o,o,some (.pointer (some (gt,1+j))),some (.int .i64 p),some (.slice (some ⟨ga,0,none⟩) 32 32),some (.slice (some ⟨gb,0,none⟩) 32 32),none]
def epF (gt gp j:Nat) (p:Int) (B ga gb:Nat) (D:List Int) (i:Nat) (v:Value) (u:World):Prop:=atL (epL gt gp j p ga gb) i v/\(i=14->sJ u B v D)
theorem QD {j:Nat} {p:Int} {ga gb:Nat} {D:List Int} (i) (v) (u u' : World) (c : Below u u u') (h:epF gt gp j p B ga gb D i v u):epF gt gp j p B ga gb D i v u':=
 ⟨h.1,fun b=>Z9 (h.2 b) fun g _ _ a=>c.block g (xR a)⟩
theorem YT {a b:Bool} (h:(a||b)=true):a=true\/(a=false/\b=true):=by cases a<;>simp_all
theorem uV.full {fp:Value} {rv:Value} {gn cn gd:Nat} {gv:Value} {E:List Nd} {pl:List (Int×Value)} (h:uV w B F T gt fp x rv gn cn gd gp gv E pl) (j) (a:j<16):w.cell? ⟨gt,1+j,none⟩=some (.int .i64 (x.fo.nd 0 j)):=by rw[zC h.row,qt _ _ _ _ _ _ _ _ _ _ (by omega)];unfold pT;rw[zb (by omega),ze (by omega)];unfold uU;rw[show (1+j-1) / 48=0 by omega,show (1+j-1)%48=j by omega,ze a]
theorem Th {w0:World} {F1:Nat->Prop} {gf:Nat} {s:Fs} {a:Addr} (hf:FsAt w0 gf s F1 a) (hb:Below w0 w0 w) (h:TxAt w w0 F gt (gf,()) x T) (av:∀i,F1 i->F i)
 (a1:∀X∈s.nodes,X.P.length<=8) (a2:∀X∈x.nodes,X.P.length<=8) (ad:∀y∈x.dirty,y.2=.bool true) (ah:256<=x.fake/\x.fake<900000) (ap:∀i,i<16->0<=x.fo.nd 0 i/\x.fo.nd 0 i<=x.fake) (aA:s.todo.length<=1000) (aE:x.put.length<=800)
 (hok:mD s x=true->(vP s.k x 16).full=false->EndOk x s):
 Calls prog 64 #[(gt,())] w
  (fun e w'=>e=.returned (.int .i64 (endE s x))/\∃F',FsAt w' gf (endS s x) F' a/\(∀i,F' i->F1 i\/w0.heap.size<=i)/\yQ F1 w0 w'):=by
 have H:=za h;have HF:=za hf;have ay:=za hb;have cu:=za (S5 h (hf.below hb) a1 a2);have bO:=za (QM ad);have ds:=za (WB (k:=s.k) hf.k1 ah.1 ap);have dh:=za ah;have cS:=za hok;have cM:=za av;have aX:Hid (∀W,Below w0 w0 W->endE s x≠0->∃F',FsAt W gf (endS s x) F' a/\(∀i,F' i->F1 i\/w0.heap.size<=i)/\yQ F1 w0 W):=fun W hW he=>by unfold endS;rw[zb he];exact⟨F1,HF.o.below hW,fun i hi=>zr hi,yQ.of_below hW⟩
 obtain⟨z,HZ⟩:=zD (mD s x);rw[HZ.o]at cu;clear hf h hb ad ap hok;go_enter func64,ntmps64;go_wp2_with fail
 refine cu.o.mono ?_;rintro e w1 ⟨rfl,b5⟩;have dm:=za b5;have cW:=za (ay.o.trans (b5.mono ay.o.size));clear b5;cases z with
 | false=>
  have HE:Hid (endE s x=16):=by show _=_;unfold endE;rw[HZ.o,ze rfl]
  have HR:=za (aX.o w1 cW.o (by rw[HE.o];decide));go_wp2;go_ret;exact⟨by rw[HE.o];rfl,HR.o⟩
 | true=>
 go_wp2;go_loopw [14] (fun iv wr=>∃j:Nat,j<=16/\iv=.int .i64 j/\Hid (uc w0 F gt (gf,()) (vP s.k x j) T w wr)) (fun iv _=>16-(intOf iv).toNat);case atStart=>exact⟨0,by omega,rfl,uc.same H.o dm.o⟩
 case round=>
  obtain⟨j,hj,rfl,aL⟩:=hrel;obtain⟨y,Hy⟩:=zD (vP s.k x j);obtain⟨q1,q2,q3,q4,q5⟩:=ds.o j hj;obtain⟨s1,s2,s3,s4,s5⟩:=VT s.k x j;rw[Hy.o]at aL q1 q2 q3 q4 q5 s1 s2 s3 s4 s5;have aB:Hid (256<=y.fake/\y.fake<950000/\(∀i,i<16->0<=y.fo.nd 0 i/\y.fo.nd 0 i<=y.fake)):=⟨q1,by have:=dh.o;omega,q4⟩;have dL:=za s2;clear q1 q2 q3 q4 q5 s1 s2 s3 s4 s5;obtain⟨T1,t1,t2,t3,t4⟩:=aL.o;have B:=za t1;have O:Hid ((∀i,T1 i->T i\/w.heap.size<=i)/\yQ T w wr/\∀i,T i->T1 i):=⟨t2,t3,t4⟩;have ak:=za (ay.o.trans (t3.to_below H.o.new ay.o.size));obtain⟨rv,S,cn,gd,gp,gv,E,pl,hl⟩:=t1.lies;obtain⟨c0,M,I,V,t,J,ac,N⟩:=rt hl.row;clear t1 t2 t3 t4;by_cases Y:j<16
  .have aD:(j:Int)<16:=(by omega);have aa:=hl.dirt.look (k:=2*(j:Int)+1) intT pH (lk wr) (by unfold InZ;omega);have ae:=hl.dirt.look (k:=2*(j:Int)+2) intT pH (lk wr) (by unfold InZ;omega);rw[dL.o,bO.o]at aa ae;have af:Hid (sK x j=((getZ x.dirty (2*j+1)).isSome||(getZ x.dirty (2*j+2)).isSome)):=za rfl;obtain⟨b1,bq⟩:=zD ((getZ x.dirty (2*(j:Int)+1)).isSome);obtain⟨b2,bt⟩:=zD ((getZ x.dirty (2*(j:Int)+2)).isSome);rw[bq.o]at aa af;rw[bt.o]at ae af;have i1:=zW (2*j) (by omega);have i2:=zW (2*j+1) (by omega);have i3:=zW (2*j+2) (by omega);obtain⟨d,Hd⟩:=zD (sK x j);rw[Hd.o]at af;have HN:Hid (vP s.k x (j+1)=if d=true then oh s.k y j else y):=(by show (if sK x j=true then oh s.k (vP s.k x j) j else vP s.k x j)=_;rw[Hd.o,Hy.o]);have HL:=za hl;clear hl c0 M I t J ac N;have hd:=af.o;cases d with
   | false=>
    obtain⟨rfl,rfl⟩:b1=false/\b2=false:=uF.1 hd.symm;have HR:Hid (uc w0 F gt (gf,()) (vP s.k x (j+1)) T w wr):=(by show _;rw[HN.o];exact aL.o);clear hd;go_wp2;go_roundw;case rel=>exact⟨j+1,by omega,by go_num,HR⟩
    case measure=>simp[intOf];omega
   | true=>
    have a7:=YT hd.symm;clear hd;obtain⟨p,Hp⟩:=zD (y.fo.nd 0 j);obtain⟨p',o',HO⟩:∃p' o',Hid (ownU y.ow s.k p=(p',o')):=⟨_,_,za rfl⟩;have aR:=aB.o.2.2 j Y;rw[Hp.o]at aR;have cK:Hid (o'.fo.nd=y.fo.nd):=(by show _=_;have h1:=YR y.ow s.k p;rw[HO.o]at h1;exact h1);have d2:Hid (∀W,Below wr wr W->Calls prog 118 #[(gt,()),p] W
     (fun e w'=>e=.returned p'/\uc w0 F gt (gf,()) (y.wow o') T1 W w')):=fun W hW=>by
     have h1:=YH HF.o (ak.o.trans (hW.mono ak.o.size)) (B.o.below hW) (by have:=aB.o;omega) p (by have:=aB.o;omega);rw[HO.o]at h1;exact h1
    have HS:Hid (∀W0 W,Below wr wr W0->uc w0 F gt (gf,()) (y.wow o') T1 W0 W->(W.cell? (gt,1+j)=some (.int .i64 p)/\W.frozen? (gt,1+j)=false)/\uc w0 F gt (gf,()) (vP s.k x (j+1)) T w (W.setCell (gt,1+j) (.int .i64 p'))):=fun W0 W hW cX=>by
     obtain⟨T2,u1,u2,u3,u4⟩:=cX;obtain⟨db,dI,dr,dD,dg,dM,E2,eF,aM⟩:=u1.lies;refine⟨⟨?_,zF aM.row⟩,?_⟩
     .rw[aM.full j Y];show some (Value.int .i64 (o'.fo.nd 0 j))=_;rw[cK.o,Hp.o]
     .have bG:(W.setCell (gt,1+j) (.int .i64 p')).heap[gt]?=some (.cells (txR (gf,()) (ndF (y.wow o').fo j p') db (.slice (some ⟨dI,0,none⟩) 32 dr) (.map (some dD)) (.map (some dg)) dM (y.wow o').full (y.wow o').fake) 118):=(by rw[<-txR_nd _ _ _ _ _ _ _ _ _ j Y];exact yb _ _ (1+j) _ _ _ aM.row);have h5:=aM.putHas u1 (ndF (y.wow o').fo j p') (yQ.setCell (F:=fun i=>i=gt) (p:=⟨gt,1+j,none⟩) rfl _) bG;have h6:=uc.join u2 u3 u4 h5;have h7:=uc.after B.o hW h6;have h8:=uc.join O.o.1 O.o.2.1 O.o.2.2 h7;rw[HN.o,ze rfl];unfold oh;rw[Hp.o,HO.o];exact h8
    have m0:wr.cell? (gt,1+j)=some (.int .i64 p):=(by rw[HL.o.full j Y,Hp.o]);have U:wr.frozen? (gt,1+j)=false:=zF HL.o.row;clear aR;rcases a7 with rfl|⟨rfl,rfl⟩;all_goals
     go_upto_region 7 with fail
     go_region_with (first
      | (go_at_call 118;go_loud ((with_reducible refine (d2.o wr.drew zB.drew).mono ?_);(rintro e w3 ⟨rfl,bQ⟩);(obtain⟨⟨eG,eg⟩,bL⟩:=HS.o wr.drew w3 zB.drew bQ);(have cL:=za bL);clear bQ bL)))
     all_goals
      go_wp2_with fail
      go_roundw;case rel=>exact⟨j+1,by omega,by go_num,cL⟩
      case measure=>simp[intOf];omega
  .obtain rfl:j=16:=(by omega);obtain⟨fl,aN⟩:=zD y.full;rw[aN.o]at ac;cases fl with
   | true=>
    have HE:Hid (endE s x=6):=(by show _=_;unfold endE;rw[HZ.o,zb (by decide),Hy.o,aN.o,ze rfl]);have HR:=za (aX.o wr ak.o (by rw[HE.o];decide));clear c0 M I V t J N hl;go_wp2;go_ret;exact⟨by rw[HE.o];rfl,HR.o⟩
   | false=>
   have HE:Hid (endE s x=0):=(by show _=_;unfold endE;rw[HZ.o,zb (by decide),Hy.o,aN.o,zb (by decide)]);have hok:=cS.o HZ.o (by rw[Hy.o];exact aN.o);have ax:=za hok;obtain⟨s1,s2,s3,s4,s5⟩:=VT s.k x 16;rw[Hy.o]at s1 s2 s3 s4 s5;have az:Hid (y.nodes=x.nodes/\y.dirty=x.dirty/\y.put=x.put/\y.gone=x.gone/\y.rows=x.rows):=⟨s1,s2,s3,s4,s5⟩;have ci:Hid (∀j,sK y j=sK x j):=fun j=>(by unfold sK;rw[s2]);clear c0 M I V t J N hl hok s1 s2 s3 s4 s5;go_wp2;clear ac;go_loopw [57] (fun iv wq=>∃j:Nat,j<=16/\iv=.int .i64 j/\Hid (uc w0 F gt (gf,()) {y with put:=rF y j} T w wq)) (fun iv _=>16-(intOf iv).toNat);case atStart=>exact⟨0,by omega,rfl,aL⟩
   case round=>
    obtain⟨j,hj,rfl,aZ⟩:=hrel;obtain⟨G,an⟩:∃z:Tx,Hid ({y with put:=rF y j}=z):=⟨_,za rfl⟩;rw[an.o]at aZ;have al:Hid (G.nodes=x.nodes/\G.dirty=x.dirty/\G.fo=y.fo/\G.put.length<=816):=(by rw[<-an.o];exact⟨az.o.1,az.o.2.1,rfl,by have h1:=IB y j;rw[az.o.2.2.1]at h1;show (rF y j).length<=816;omega⟩);obtain⟨T1,t1,t2,t3,t4⟩:=aZ.o;have B:=za t1;have O:Hid ((∀i,T1 i->T i\/w.heap.size<=i)/\yQ T w wr/\∀i,T i->T1 i):=⟨t2,t3,t4⟩;have ak:=za (ay.o.trans (t3.to_below H.o.new ay.o.size));obtain⟨rv,S,cn,gd,gp,gv,E,pl,hl⟩:=t1.lies;obtain⟨c0,M,I,V,t,J,ac,N⟩:=rt hl.row;clear t1 t2 t3 t4 ac;by_cases Y:j<16
    .have aD:(j:Int)<16:=(by omega);obtain⟨m,Hm⟩:=zD (2*j);obtain⟨U,aK⟩:=zD (2*j+1);have aU:m<32:=(by have:=Hm.o;omega);have a5:U<32:=(by have:=aK.o;omega);have aa:=hl.dirt.look (k:=2*(j:Int)+1) intT pH (lk wr) (by unfold InZ;omega);have ae:=hl.dirt.look (k:=2*(j:Int)+2) intT pH (lk wr) (by unfold InZ;omega);rw[al.o.2.1,bO.o]at aa ae;have af:Hid (sK x j=((getZ x.dirty (2*j+1)).isSome||(getZ x.dirty (2*j+2)).isSome)):=za rfl;obtain⟨b1,bq⟩:=zD ((getZ x.dirty (2*(j:Int)+1)).isSome);obtain⟨b2,bt⟩:=zD ((getZ x.dirty (2*(j:Int)+2)).isSome);rw[bq.o]at aa af;rw[bt.o]at ae af;rw[show 2*(j:Int)+1=((U:Nat):Int) by have:=aK.o;omega]at aa;have i1:IntKind.i64.wrap (2*j)=m:=(by rw[show 2*(j:Int)=(m:Int) by have:=Hm.o;omega];exact zQ _ (by omega));have i2:IntKind.i64.wrap (m+1)=U:=(by rw[show (m:Int)+1=(U:Int) by have:=Hm.o;have:=aK.o;omega];exact zQ _ (by omega));have i3:IntKind.i64.wrap (m+2)=2*j+2:=(by rw[show (m:Int)+2=2*(j:Int)+2 by have:=Hm.o;omega];exact zQ _ (by omega));obtain⟨d,Hd⟩:=zD (sK x j);rw[Hd.o]at af;have hd:=af.o;cases d with
     | false=>
      obtain⟨rfl,rfl⟩:b1=false/\b2=false:=uF.1 hd.symm;have HR:Hid (uc w0 F gt (gf,()) {y with put:=rF y (j+1)} T w wr):=(by have e:rF y (j+1)=rF y j:=(by show (if sK y j=true then _ else rF y j)=_;rw[ci.o,Hd.o,zb (by decide)]);show uc _ _ _ _ _ _ _ _;rw[e,an.o];exact aZ.o);clear hd hl;go_wp2;go_roundw;case rel=>exact⟨j+1,by omega,by go_num,HR⟩
      case measure=>simp[intOf];omega
     | true=>
      have a7:=YT hd.symm;clear hd;obtain⟨X0,a4⟩:∃X,x.nodes[m]?=some X:=⟨_,zh (by rw[H.o.len];exact aU)⟩;obtain⟨C,a3⟩:∃X,x.nodes[U]?=some X:=⟨_,zh (by rw[H.o.len];exact a5)⟩;have bm:=ax.o.nd X0 (xU a4);have bp:=ax.o.nd C (xU a3);have aq:Hid ((rU X0).length=32/\(rU C).length=32):=⟨VK bm,VK bp⟩;obtain⟨p,Hp⟩:=zD (y.fo.nd 0 j);have di:Hid (0<=p/\p<=950000):=(by have h1:=aB.o.2.2 j Y;have h2:=aB.o.2.1;rw[Hp.o]at h1;show _/\_;omega);have dz:Hid ({y with put:=rF y (j+1)}={G with put:=putZ G.put p (rU X0++rU C)}):=(by have e:rF y (j+1)=putZ (rF y j) p (rU X0++rU C):=(by show (if sK y j=true then putZ (rF y j) (y.fo.nd 0 j) (rU (y.nodes.getD (2*j) zN)++rU (y.nodes.getD (2*j+1) zN)) else rF y j)=_;rw[ci.o,Hd.o,ze rfl,Hp.o,aK.o,Hm.o,az.o.1,zi,zi,a4,a3];rfl);show _=_;rw[e,<-an.o]);have HL:=za hl;rw[<-al.o.1]at a4 a3;obtain⟨yq,yn,yc,y0,y1,y2,y3,y4,y5,y6,y7,hy⟩:=hl.nodeAt B.o.len m aU X0 a4;obtain⟨zq,zn,zc,z0,z1,z2,z3,z4,z5,z6,z7,hz⟩:=hl.nodeAt B.o.len U a5 C a3;have A:Hid (S<wr.heap.size/\gt<wr.heap.size):=⟨(hl.own.lt S rfl).2,xR hl.row⟩;have ag:Hid (wr.cell? (S,U*8)=some (.int .i64 C.k)/\wr.cell? (S,U*8+1)=some (.int .i64 C.m)/\wr.cell? (S,U*8+2)=some (.int .i64 C.u)/\wr.cell? (S,U*8+3)=some (.int .i64 C.g)/\wr.cell? (S,U*8+4)=some (.int .i64 C.s)/\wr.cell? (S,U*8+5)=some (.int .i64 C.l)/\wr.cell? (S,U*8+6)=some (.int .i64 C.up)/\wr.cell? (S,U*8+7)=some (.slice zq zn zc)):=⟨z0,z1,z2,z3,z4,z5,z6,z7⟩;have bj:=za I;have dP:=za (UL X0.k X0.m X0.u X0.g X0.s X0.l X0.up (yq,yn,yc) X0.P wr hy.now bm);have bc:Hid (∀W,Below wr wr W->Calls prog 108 #[.agg #[C.k,C.m,C.u,C.g,C.s,C.l,C.up,(zq,zn,zc)]] W (VE C.k C.m C.u C.g C.s C.l C.up C.P W)):=fun W hW=>UL _ _ _ _ _ _ _ _ _ W (wh.below hz.now hW) bp;have cq:Hid (wr.cell? (gt,1+j)=some (.int .i64 p)/\wr.cell? (gt,196)=some (.map (some gp))):=⟨by rw[hl.full j Y,al.o.2.2.1,Hp.o],t⟩;have dW:(U:Int)<32:=(by omega);have em:(m:Int)<32:=(by omega);clear z0 z1 z2 z3 z4 z5 z6 z7 hl hy hz c0 M J N a4 a3 bm bp;rcases a7 with rfl|⟨rfl,rfl⟩;all_goals
       go_wp2_with fail
       refine dP.o.mono ?_;rintro e w5 ⟨ga,rfl,cQ,bU,bN⟩;have Z:=za bN;have dq:=za bU;have br:=(Z.o.cell (p:=⟨gt,194,none⟩) A.o.2).trans bj.o;have z0:=(Z.o.cell (p:=⟨S,U*8,none⟩) A.o.1).trans ag.o.1;have z1:=(Z.o.cell (p:=⟨S,U*8+1,none⟩) A.o.1).trans ag.o.2.1;have z2:=(Z.o.cell (p:=⟨S,U*8+2,none⟩) A.o.1).trans ag.o.2.2.1;have z3:=(Z.o.cell (p:=⟨S,U*8+3,none⟩) A.o.1).trans ag.o.2.2.2.1;have z4:=(Z.o.cell (p:=⟨S,U*8+4,none⟩) A.o.1).trans ag.o.2.2.2.2.1;have z5:=(Z.o.cell (p:=⟨S,U*8+5,none⟩) A.o.1).trans ag.o.2.2.2.2.2.1;have z6:=(Z.o.cell (p:=⟨S,U*8+6,none⟩) A.o.1).trans ag.o.2.2.2.2.2.2.1;have z7:=(Z.o.cell (p:=⟨S,U*8+7,none⟩) A.o.1).trans ag.o.2.2.2.2.2.2.2;clear cQ bU bN;go_wp2_with fail
       refine (bc.o w5 Z.o).mono ?_;rintro e w6 ⟨gb,rfl,cZ,cr,bk⟩;have ba:=za (zf Z.o bk);have d7:=za cr;have cv:=za (wy bk dq.o);clear cZ cr bk br z0 z1 z2 z3 z4 z5 z6 z7 y0 y1 y2 y3 y4 y5 y6 y7 aa ae I V t;obtain⟨i0,u1,u2,u3,u4⟩:=xy fW;have HU:Hid (prog.info? 5=some i0/\i0.zero=some (.int .u8 0)/\i0.size=1/\i0.bytes=1/\(Value.int .u8 0).cells.size=1):=⟨u1,u2,u3,u4,rfl⟩;have da:=za (zt ak.o.size ba.o.size);clear u1 u2 u3 u4
       go_upto_region 19 with fail
       refine Gy (by kernel_rfl) (by kernel_rfl) (fun u u'=>Below u u u') (zB.drew) (fun u u' h1 h2=>zf h1 h2) 155 [109,110,111,112,113,114,115,116,117,118,119,120,121,122,123] (epF gt gp j p w0 ga gb (rU X0++rU C)) QD 15 (by kernel_rfl) (by kernel_rfl) ⟨rfl,rfl⟩ ?_ ?_
       .intro Dn b u Q i o bY c d9 L;have bT:=Q.old 0 (gt,()) ⟨by decide,by decide,rfl⟩;have dv:=Q.old 4 (.int .i64 (j:Int)) ⟨by decide,by decide,rfl⟩;have d5:=Q.old 5 (.slice (some ⟨ga,0,none⟩) 32 32) ⟨by decide,by decide,rfl⟩;have dx:=Q.old 7 (.slice (some ⟨gb,0,none⟩) 32 32) ⟨by decide,by decide,rfl⟩;have ab:=zf ba.o Q.b;have dc:=(ab.cell (p:=⟨gt,1+j,none⟩) A.o.2).trans cq.o.1;have de:=(ab.cell (p:=⟨gt,196,none⟩) A.o.2).trans cq.o.2
        match i,bY,c,d9,L with
        | 0,_,c,_,L=>
         simp only[zk,zw]at c;subst c;exact qD (.tmp 0) rfl ⟨_,rfl,zB,bT,fun D=>zY D (by decide)⟩
        | 1,_,c,_,L=>
         simp only[zk,zl,zw]at c;subst c;have e0:=(Q.fact 0 (L ⟨0,.data⟩ (by simp) rfl)).1;exact mw (.tmp 109) rfl ⟨gt,0,none⟩ e0 ⟨_,rfl,zB,rfl,fun D=>zY D (by decide)⟩
        | 2,_,c,_,L=>
         simp only[zk,zl,zw]at c;subst c;have e1:=(Q.fact 1 (L ⟨1,.data⟩ (by simp) rfl)).1;exact sV (v:=(.pointer (some ⟨gt,196,none⟩))) (w':=u) (by unfold execOp;simp only[Act.eval];rw[show b.tmps.getD 110 undef=_ from e1];simp[go_sem]) ⟨_,rfl,zB,rfl,fun D=>zY D (by decide)⟩
        | 3,_,c,_,L=>
         simp only[zk,zl,zw]at c;subst c;have e2:=(Q.fact 2 (L ⟨2,.data⟩ (by simp) rfl)).1;exact sV (v:=(.map (some gp))) (w':=u) (by unfold execOp;simp only[Act.eval];rw[show b.tmps.getD 111 undef=_ from e2];simp[go_sem,de]) ⟨_,rfl,zB,rfl,fun D=>zY D (by decide)⟩
        | 4,_,c,_,L=>
         simp only[zk,zl,zw]at c;subst c;exact qD (.tmp 0) rfl ⟨_,rfl,zB,bT,fun D=>zY D (by decide)⟩
        | 5,_,c,_,L=>
         simp only[zk,zl,zw]at c;subst c;exact qD (.tmp 4) rfl ⟨_,rfl,zB,dv,fun D=>zY D (by decide)⟩
        | 6,_,c,_,L=>
         simp only[zk,zl,zw]at c;subst c;have e4:=(Q.fact 4 (L ⟨4,.data⟩ (by simp) rfl)).1;exact mw (.tmp 113) rfl ⟨gt,0,none⟩ e4 ⟨_,rfl,zB,rfl,fun D=>zY D (by decide)⟩
        | 7,_,c,_,L=>
         simp only[zk,zl,zw]at c;subst c;have e6:=(Q.fact 6 (L ⟨6,.data⟩ (by simp) rfl)).1;exact sV (v:=(.pointer (some ⟨gt,1,none⟩))) (w':=u) (by unfold execOp;simp only[Act.eval];rw[show b.tmps.getD 115 undef=_ from e6];simp[go_sem]) ⟨_,rfl,zB,rfl,fun D=>zY D (by decide)⟩
        | 8,_,c,_,L=>
         simp only[zk,zl,zw]at c;subst c;have e7:=(Q.fact 7 (L ⟨7,.data⟩ (by simp) rfl)).1;exact sV (v:=(.pointer (some ⟨gt,1,none⟩))) (w':=u) (by unfold execOp;simp only[Act.eval];rw[show b.tmps.getD 116 undef=_ from e7];simp[go_sem]) ⟨_,rfl,zB,rfl,fun D=>zY D (by decide)⟩
        | 9,_,c,_,L=>
         simp only[zk,zl,zw]at c;subst c;have e8:=(Q.fact 8 (L ⟨8,.data⟩ (by simp) rfl)).1;exact sV (v:=(.pointer (some ⟨gt,1,none⟩))) (w':=u) (by unfold execOp;simp only[Act.eval];rw[show b.tmps.getD 117 undef=_ from e8];simp[go_sem]) ⟨_,rfl,zB,rfl,fun D=>zY D (by decide)⟩
        | 10,_,c,_,L=>
         simp only[zk,zl,zw]at c;subst c;have e9:=(Q.fact 9 (L ⟨9,.data⟩ (by simp) rfl)).1;have e5:=(Q.fact 5 (L ⟨5,.data⟩ (by simp) rfl)).1;exact sV (v:=(.pointer (some (gt,1+j)))) (w':=u) (by unfold execOp;simp only[Act.eval];rw[show b.tmps.getD 118 undef=_ from e9,show b.tmps.getD 114 undef=_ from e5];simp[go_sem,aD]) ⟨_,rfl,zB,rfl,fun D=>zY D (by decide)⟩
        | 11,_,c,_,L=>
         simp only[zk,zl,zw]at c;subst c;have cU:=(Q.fact 10 (L ⟨10,.data⟩ (by simp) rfl)).1;exact sV (v:=(.int .i64 p)) (w':=u) (by unfold execOp;simp only[Act.eval];rw[show b.tmps.getD 119 undef=_ from cU];simp[go_sem,dc]) ⟨_,rfl,zB,rfl,fun D=>zY D (by decide)⟩
        | 12,_,c,_,L=>
         simp only[zk,zl,zw]at c;subst c;exact qD (.tmp 5) rfl ⟨_,rfl,zB,d5,fun D=>zY D (by decide)⟩
        | 13,_,c,_,L=>
         simp only[zk,zl,zw]at c;subst c;exact qD (.tmp 7) rfl ⟨_,rfl,zB,dx,fun D=>zY D (by decide)⟩
        | 14,_,c,_,L=>
         simp only[zk,zl,zw]at c;subst c;have d3:=(Q.fact 12 (L ⟨12,.data⟩ (by simp) rfl)).1;have dA:=(Q.fact 13 (L ⟨13,.data⟩ (by simp) rfl)).1;have dw:=wy Q.b cv.o;have cV:=wy Q.b d7.o;refine GK (.tmp 121) (.tmp 122) 56 rfl 5 i0 (.int .u8 0) 1 1 u8sT HU.o.1 HU.o.2.1 HU.o.2.2.1 HU.o.2.2.2.1 HU.o.2.2.2.2 (by decide) ⟨ga,0,none⟩ 32 32 (u8s (rU X0)) (by simp only[Act.eval];exact d3) (by rw[uo,aq.o.1]) (Wt dw) ⟨gb,0,none⟩ 32 32 (u8s (rU C)) (by simp only[Act.eval];exact dA) (by rw[uo,aq.o.2]) (Wt cV) (by decide) (by unfold maxLen;decide) (by decide) ?_;intro v' w' bM dN;refine⟨_,rfl,(x9 _ u).grown dN zL (fun k hk=>by cases hk),trivial,fun _=>?_⟩;exact PX bM (by rw[zm,aq.o.1,aq.o.2]) (pC _ _) (zt da.o Q.b.size)
        | n+15,bY,_,_,_=>omega
       .intro Dn b u Q ao o c f Hf c1;simp only[zk,zl,zw]at c;subst c;have e3:b.tmps.getD 112 undef=.map (some gp):=(Q.fact 3 (ao 3 (by omega))).1;have cx:b.tmps.getD 120 undef=.int .i64 p:=(Q.fact 11 (ao 11 (by omega))).1;have bb:sJ u w0 (b.tmps.getD 123 undef) (rU X0++rU C):=(Q.fact 14 (ao 14 (by omega))).2 rfl;have ab:=zf ba.o Q.b;have a9:=HL.o.below ab;have ca:=B.o.below ab;generalize bK:b.tmps.getD 123 undef=u6 at bb;obtain⟨w7,aY,cm,cf⟩:=a9.puts.store intT mz (by have h1:=a9.secs.len;have h2:=al.o.2.2.2;omega) (k:=p) (by have:=di.o;unfold InZ;omega) u6;refine JC (w':=w7) (by unfold execOp;simp only[Act.eval];rw[e3,cx,bK];simp[aY,Result.andThen]) ?_;have bg:yQ (fun i=>i=gp) u w7:=yQ.grown cf.grown (fun r hr=>by injection hr with hr;exact hr.symm);have bJ:=a9.putMap ca p _ (rU X0++rU C) bb bg cm (by have h2:=al.o.2.2.2;omega);have cb:yQ T1 wr w7:=(yQ.of_below ab).step (bg.mono fun i _ hi=>by rw[hi];exact a9.tp);have bS:Hid (uc w0 F gt (gf,()) {y with put:=rF y (j+1)} T w w7):=(by refine⟨T1,?_,O.o.1,O.o.2.1.trans cb O.o.1,O.o.2.2⟩;rw[dz.o];exact bJ);rename_i K hK;refine hK _ _ ?_;rw[c1];simp only[Act.put,wl,ie,zK,yi,yf];clear e3 cx bb bK a9 ca aY cm cf bg bJ cb c1 Hf ao Q ab;go_wp2;refine⟨?_,?measure⟩
        repeat apply Exists.intro
        refine⟨?rel,rfl⟩;case rel=>exact⟨j+1,by omega,by go_num,bS⟩
        case measure=>simp[intOf];omega
    .obtain rfl:j=16:=(by omega);obtain⟨z,Hz⟩:∃z:Tx,Hid (kF y=z):=⟨_,za rfl⟩;have d8:G=z:=(by rw[<-an.o,<-Hz.o];rfl);subst d8;have ai:Hid (G.gone=x.gone/\G.rows=x.rows/\G.nodes=x.nodes/\qC G x.gone.length=endT s.k x):=(by refine⟨by rw[<-an.o];exact az.o.2.2.2.1,by rw[<-an.o];exact az.o.2.2.2.2,al.o.1,?_⟩;unfold endT;rw[Hy.o,Hz.o]);have HL:Hid (uV wr w0 F T1 gt (gf,()) (qC G 0) rv S cn gd gp gv E pl):=(by show uV _ _ _ _ _ _ _ _ _ _ _ _ _ _ _;rw[L0];exact hl);have bn:=hl.gone;rw[ai.o.1]at bn;obtain⟨q,cg,rfl,ck⟩:=tV bn;have ck:=za ck;clear hl c0 M I V t N;have ch:=J;clear J bn;have dB:=za H.o.gone;obtain⟨m,Hm⟩:=zD x.gone.length;rw[Hm.o]at ch;have eU:m<=1000:=(by have h1:=dB.o;have h2:=Hm.o;omega);go_wp2;go_loopw [130] (fun iv wq=>∃j aI,j<=m/\iv=.int .i64 (j:Int)/\Hid (uV wq w0 F T1 gt (gf,()) (qC G j) rv S cn gd gp (q,x.gone.length,cg) E aI)/\Hid (yQ T1 wr wq)) (fun iv _=>m-(intOf iv).toNat);case atStart=>exact⟨0,pl,by omega,rfl,HL,yQ.refl _ _⟩
     case round=>
      obtain⟨j,aI,et,rfl,aw,cl⟩:=hrel;obtain⟨c0,M,I,V,t,J,ac,N⟩:=rt aw.o.row;clear c0 M I V J ac N;have dj:=za t;clear t;by_cases dd:j<m
      .have a6:j<x.gone.length:=(by rw[Hm.o];exact dd);have ct:wr.ownsRow w0 3 1 (q,x.gone.length,cg) x.gone.length (ints x.gone):=(by have h9:wr.ownsRow w0 3 1 (q,x.gone.length,cg) G.gone.length (ints G.gone):=aw.o.gone;rw[ai.o.1]at h9;exact h9);obtain⟨q2,c2,cT,ce⟩:=tV ct;injection cT with e1 _ e2;subst e1 e2;obtain⟨gg,rfl,dt,bX⟩:=ce (by omega);have cY:=ax.o.gone _ (zx a6);obtain⟨p,Hp⟩:∃p:Nat,Hid (x.gone[j]' a6=(p:Int)):=⟨(x.gone[j]' a6).toNat,by show _=_;omega⟩;have dG:p<256:=(by have:=Hp.o;omega);have cj:=bX j _ (mu x.gone j a6);rw[Hp.o]at cj;have dp:Hid (G.gone[j]?=some (p:Int)):=(by show _=_;rw[ai.o.1,zh a6,Hp.o]);have bI:j<(m:Int):=(by omega);obtain⟨yg,bV⟩:∃z:Tx,Hid (qC G j=z):=⟨qC G j,za rfl⟩;rw[bV.o]at aw;obtain⟨R,HR⟩:=zD (txR (gf,()) yg.fo rv (.slice (some ⟨S,0,none⟩) 32 cn) (.map (some gd)) (.map (some gp)) (gg,0,x.gone.length,cg) yg.full yg.fake);have dC:Hid (R.size=200):=(by show _=_;rw[<-HR.o];exact pi _ _ _ _ _ _ _ _ _);obtain⟨S0,bh⟩:=zA (enc (yg.fo.hs 0));have bZ:Hid (S0.size=32):=(by rw[bh.o];exact tP _);have cJ:Hid (∀j,j<S0.size->R[17+j]?=S0[j]?):=(by rw[<-HR.o,bh.o];exact iS _ _ _ _ _ _ _ _ _);obtain⟨S1,aH⟩:=zA (enc (del (yg.fo.hs 0) p));have aW:Hid (S1.size=32):=(by rw[aH.o];exact tP _);have cy:Hid (S1.all (·.oneCell')=true):=(by rw[aH.o];exact lW _);have dJ:Hid (∀W,Calls prog 119 #[.agg S0,p] W fun e w'=>e=.returned (.agg S1)/\Below W W w'):=fun W=>(by have:=JD (yg.fo.hs 0) (p:Int) W (by omega) (by omega);rw[yz]at this;rw[bh.o,aH.o];exact this);obtain⟨R1,aQ⟩:=zD (txR (gf,()) (hasF yg.fo (del (yg.fo.hs 0) p)) rv (.slice (some ⟨S,0,none⟩) 32 cn) (.map (some gd)) (.map (some gp)) (gg,0,x.gone.length,cg) yg.full yg.fake);have bc:Hid ((R.toList.take 17++S1.toList++R.toList.drop (17+S1.size)).toArray=R1):=(by rw[<-HR.o,aH.o,<-aQ.o];exact KZ _ _ _ _ _ _ _ _ _ _);have a8:=aw.o.row;rw[HR.o]at a8;have aV:=za a8;clear a8 ct bX ce cY dt
       go_upto_region 24 with fail
       refine Zz 13 (by kernel_rfl) (by kernel_rfl) ?_;simp only[wZ,xH,vd,wT]
       repeat (first
        | go_big_quiet_skip
        | (refine V3 rfl 102 (.tmp 139) rfl gt 17 rfl 118 R S0 (0,0) _ (fun _ hw=>Zv hw aV.o) cJ.o setT rfl (by rw[bZ.o];exact setI) ?_;simp only[Act.put,zK,yi,yf])
        | (refine qE 119 #[.tmp 140,.tmp 141] #[102,3] rfl rfl (fun _ _=>by kernel_rfl) #[.agg S0,p] (by kernel_rfl) (.agg S1) (fun _ _=>qu) (fun w' _=>dJ.o w') ?_;simp only[Act.put,zK,yi,yf])
        | (go_big_quiet_want;go_big_quiet_op;go_big_quiet_on))
       refine ve ?_;intro u bv;have dy:=za (sF bv);have aC:=za (wy (sF bv) aV.o);clear bv;have bD:(u.setRow gt R1).heap[gt]?=some (.cells (txR (gf,()) (hasF yg.fo (del (yg.fo.hs 0) p)) rv (.slice (some ⟨S,0,none⟩) 32 cn) (.map (some gd)) (.map (some gp)) (gg,0,x.gone.length,cg) yg.full yg.fake) 118):=(by rw[aQ.o];exact yh _ _ _ _ _ _ aC.o);have bx:yQ (fun i=>i=gt) wr (u.setRow gt R1):=(yQ.of_below dy.o).step (yQ.setRow (F:=fun i=>i=gt) rfl _);have a0:=za (aw.o.withFo B.o.self _ bx bD);have d1:=za bx;have t:=(rt a0.o.row).2.2.2.2.1;have dl:=za a0.o.puts;clear bD bx;go_wp2_with (first|(refine jI rfl 102 (.tmp 146) (.tmp 142) rfl gt 17 S1 rfl rfl 118 R R1 aC.o (by rw[aW.o];exact setI) (by rw[aW.o,dC.o];omega) cy.o bc.o ?_)|(refine GA _ rfl _ _ _ _ rfl 56 intT mz gp aI (p:Int) rfl dl.o rfl (by unfold InZ;omega) ?_;intro w9 co bP))
       have aj:yQ (fun i=>i=gp) (u.setRow gt R1) w9:=yQ.grown bP.grown (fun r hr=>by injection hr with hr;exact hr.symm);have df:Hid (uV w9 w0 F T1 gt (gf,()) (qC G (j+1)) rv S cn gd gp (gg,0,x.gone.length,cg) E (delZ aI p)):=(by show uV _ _ _ _ _ _ _ _ _ _ _ _ _ _ _;rw[L1 G j (p:Int) dp.o,yz,bV.o];exact a0.o.withPut aj co (tu.drop (a0.o.secs.keep fun g cc _ D=>aj.block g (xR D) (tQ D a0.o.puts))));have bl:Hid (yQ T1 _ w9):=cl.o.step ((d1.o.mono fun i _ hi=>by rw[hi];exact B.o.self).step (aj.mono fun i _ hi=>by rw[hi];exact a0.o.tp));clear t aj co bP;refine⟨⟨j+1,by omega,by omega,⟨_,df⟩,bl⟩,?_⟩;simp[intOf];omega
      .obtain rfl:j=m:=(by omega);have bI:¬(j<(j:Int)):=(by omega);have be:=cl.o;have cd:=ak.o.trans (be.to_below B.o.new ak.o.size);have bo:=aw.o;rw[<-Hm.o,ai.o.2.2.2]at bo;have c3:(endT s.k x).put.length<=816:=(by rw[<-ai.o.2.2.2];have h1:=Qe (G.gone.take x.gone.length) G.put;have h3:=al.o.2.2.2;show (gonP G.put (G.gone.take x.gone.length)).length<=816;omega);have am:(endT s.k x).gone=G.gone/\(endT s.k x).dirty=G.dirty/\(endT s.k x).rows=G.rows/\(endT s.k x).fake=G.fake/\(endT s.k x).nodes=G.nodes:=(by rw[<-ai.o.2.2.2];exact⟨rfl,rfl,rfl,rfl,rfl⟩);have bW:=uV.at bo B.o.self (by rw[am.2.2.2.2];exact B.o.len) (fun i hi=>zo (B.o.fin i hi) be.size) B.o.new (by rw[am.1];exact B.o.gone) (by omega) (by rw[am.2.1];exact B.o.dirty) (by rw[am.2.2.1];exact B.o.rows) (by rw[am.2.2.2.1];exact B.o.fake);have dk:=za (SY HF.o cd bW cM.o ax.o.rf (by rw[am.2.2.1,ai.o.2.1];exact ax.o.rq) aA (by omega) ax.o.sync);have d4:Hid (endS s x=mo (endT s.k x) s):=(by show _=_;unfold endS;rw[ze HE.o]);clear be cd bo bW c3 am;go_wp2_with fail
       refine dk.o.mono ?_;rintro e w9 ⟨rfl,aj⟩;have bl:=za aj;clear aj;go_wp2;go_ret;exact⟨by rw[HE.o];rfl,by rw[d4.o];exact bl.o⟩
