import Derived.Test.YtakfhadmokoikaaGreatDoorKA37
set_option maxHeartbeats 0
set_option linter.all false
set_option maxRecDepth 100000
namespace Go.Proofs.YtakfhadmokoikaaGreatDoor
open Go.Proofs.Tryz Go.RowKit
variable {B gp gt:Nat} {F T:Nat->Prop} {w:World} {x:Tx}
structure EndOk (x:Tx) (s:Fs):Prop where
 nd:∀X∈x.nodes,ju X=0
 gone:∀p∈x.gone,0<=p/\p<256
 rf:rV (endT s.k x).fo=0
 rq:sf x.rows=0
 sync:30<(uN s.todo (tq (endT s.k x) s)).length->kK s
def endE (s:Fs) (x:Tx):Int:=if jc s x=false then 16 else if (vT s.k x 16).full=true then 6 else 0
def endS (s:Fs) (x:Tx):Fs:=if endE s x=0 then mn (endT s.k x) s else s
theorem R5 (h:∀y∈x.dirty,y.2=.bool true) (k:Int):(getZ x.dirty k).getD (.bool false)=.bool (getZ x.dirty k).isSome:=by
 cases a:getZ x.dirty k with
 | none=>rfl
 | some v=>exact h _ (nt a)
def epL (gt gp j:Nat) (p:Int) (ga gb:Nat):List (Option Value):=
 let t:Option Value:=some (.pointer (some ⟨gt,0,none⟩))
 let o:Option Value:=some (.pointer (some ⟨gt,1,none⟩))
 [t,t,some (.pointer (some ⟨gt,196,none⟩)),some (.map (some gp)),t,some (.int .i64 (j:Int)),t,o,o,o,some (.pointer (some (gt,1+j))),some (.int .i64 p),some (.slice (some ⟨ga,0,none⟩) 32 32),some (.slice (some ⟨gb,0,none⟩) 32 32),none]
def epF (gt gp j:Nat) (p:Int) (B ga gb:Nat) (D:List Int) (i:Nat) (v:Value) (u:World):Prop:=atL (epL gt gp j p ga gb) i v/\(i=14->su u B v D)
theorem RT {j:Nat} {p:Int} {ga gb:Nat} {D:List Int} (i:Nat) (v:Value) (u u':World) (c:Below u u u') (h:epF gt gp j p B ga gb D i v u):epF gt gp j p B ga gb D i v u':=
 ⟨h.1,fun b=>Zt (h.2 b) fun g _ _ a=>c.block g (xL a)⟩
theorem Ye {a b:Bool} (h:(a||b)=true):a=true\/(a=false/\b=true):=by cases a<;>simp_all
theorem uP.full {fp:Value} {rv:Value} {gn cn gd:Nat} {gv:Value} {E:List Nd} {pl:List (Int×Value)} (h:uP w B F T gt fp x rv gn cn gd gp gv E pl) (j:Nat) (a:j<16):w.cell? (gt,1+j)=some (.int .i64 (x.fo.nd 0 j)):=by rw[zC h.row,qf _ _ _ _ _ _ _ _ _ _ (by omega)];unfold pL;rw[zb (by omega),ze (by omega)];unfold uO;rw[show (1+j-1) / 48=0 by omega,show (1+j-1)%48=j by omega,ze a]
theorem Un {w0:World} {F1:Nat->Prop} {gf:Nat} {s:Fs} {a:Addr} (hf:FsAt w0 gf s F1 a) (hb:Below w0 w0 w) (h:TxAt w w0 F gt (gf,()) x T) (av:∀i,F1 i->F i)
 (a1:∀X∈s.nodes,X.P.length<=8) (a2:∀X∈x.nodes,X.P.length<=8) (ad:∀y∈x.dirty,y.2=.bool true) (ag:256<=x.fake/\x.fake<900000) (ao:∀i,i<16->0<=x.fo.nd 0 i/\x.fo.nd 0 i<=x.fake) (aA:s.todo.length<=1000) (aE:x.put.length<=800)
 (hok:jc s x=true->(vT s.k x 16).full=false->EndOk x s):
 Calls prog 38 #[(gt,())] w
  (fun e w'=>e=.returned (.int .i64 (endE s x))/\∃F',FsAt w' gf (endS s x) F' a/\(∀i,F' i->F1 i\/w0.heap.size<=i)/\yK F1 w0 w'):=by
 have H:=Lib.hid h;have HF:=Lib.hid hf;have ay:=Lib.hid hb;have cv:=Lib.hid (Se h (hf.below hb) a1 a2);have bP:Hid (∀k,(getZ x.dirty k).getD (.bool false)=.bool (getZ x.dirty k).isSome):=R5 ad;have du:=Lib.hid (XN (k:=s.k) hf.k1 ag.1 ao);have dj:=Lib.hid ag;have cU:=Lib.hid hok;have cP:=Lib.hid av;have aX:Hid (∀W:World,Below w0 w0 W->endE s x≠0->∃F',FsAt W gf (endS s x) F' a/\(∀i,F' i->F1 i\/w0.heap.size<=i)/\yK F1 w0 W):=fun W hW he=>by unfold endS;rw[zb he];exact⟨F1,HF.o.below hW,fun i hi=>zt hi,yK.of_below hW⟩
 obtain⟨z,HZ⟩:=zD (jc s x);rw[HZ.o]at cv;clear hf h hb ad ao hok;go_enter func38,ntmps38;go_wp2_with fail
 refine cv.o.mono ?_;rintro e w1 ⟨rfl,b6⟩;have dp:=Lib.hid b6;have cY:Hid (Below w0 w0 w1):=ay.o.trans (b6.mono ay.o.size);clear b6;cases z with
 | false=>
  have HE:Hid (endE s x=16):=by show _=_;unfold endE;rw[HZ.o,ze rfl]
  have HR:=Lib.hid (aX.o w1 cY.o (by rw[HE.o];decide));go_wp2;go_ret;exact⟨by rw[HE.o];rfl,HR.o⟩
 | true=>
 go_wp2;go_loopw [14] (fun iv wr=>∃j:Nat,j<=16/\iv=.int .i64 j/\Hid (vS w0 F gt (gf,()) (vT s.k x j) T w wr)) (fun iv _=>16-(intOf iv).toNat);case atStart=>exact⟨0,by omega,rfl,vS.same H.o dp.o⟩
 case round=>
  obtain⟨j,hj,rfl,aL⟩:=hrel;obtain⟨y,Hy⟩:=zD (vT s.k x j);obtain⟨q1,q2,q3,q4,q5⟩:=du.o j hj;obtain⟨s1,s2,s3,s4,s5⟩:=V1 s.k x j;rw[Hy.o]at aL q1 q2 q3 q4 q5 s1 s2 s3 s4 s5;have aB:Hid (256<=y.fake/\y.fake<950000/\(∀i,i<16->0<=y.fo.nd 0 i/\y.fo.nd 0 i<=y.fake)):=⟨q1,by have:=dj.o;omega,q4⟩;have dM:Hid (y.dirty=x.dirty):=s2;clear q1 q2 q3 q4 q5 s1 s2 s3 s4 s5;obtain⟨T1,t1,t2,t3,t4⟩:=aL.o;have B:=Lib.hid t1;have O:Hid ((∀i,T1 i->T i\/w.heap.size<=i)/\yK T w wr/\∀i,T i->T1 i):=⟨t2,t3,t4⟩;have ak:Hid (Below w0 w0 wr):=ay.o.trans (t3.to_below H.o.new ay.o.size);obtain⟨rv,S,cn,gd,gp,gv,E,pl,hl⟩:=t1.lies;obtain⟨c0,M,I,V,t,J,ac,N⟩:=sZ hl.row;clear t1 t2 t3 t4;by_cases Y:j<16
  .have aD:(j:Int)<16:=(by omega);have aa:=hl.dirt.look (k:=2*(j:Int)+1) intT pw (la wr) (by unfold InZ;omega);have ae:=hl.dirt.look (k:=2*(j:Int)+2) intT pw (la wr) (by unfold InZ;omega);rw[dM.o,bP.o]at aa ae;have af:Hid (sA x j=((getZ x.dirty (2*(j:Int)+1)).isSome||(getZ x.dirty (2*(j:Int)+2)).isSome)):=Lib.hid rfl;obtain⟨b1,bs⟩:=zD ((getZ x.dirty (2*(j:Int)+1)).isSome);obtain⟨b2,bv⟩:=zD ((getZ x.dirty (2*(j:Int)+2)).isSome);rw[bs.o]at aa af;rw[bv.o]at ae af;have i1:=zW (2*(j:Int));have i2:=zW (2*(j:Int)+1);have i3:=zW (2*(j:Int)+2);obtain⟨d,Hd⟩:=zD (sA x j);rw[Hd.o]at af;have HN:Hid (vT s.k x (j+1)=if d=true then pW s.k y j else y):=(by show (if sA x j=true then pW s.k (vT s.k x j) j else vT s.k x j)=_;rw[Hd.o,Hy.o]);have HL:=Lib.hid hl;clear hl c0 M I t J ac N;have hd:=af.o;cases d with
   | false=>
    obtain⟨rfl,rfl⟩:b1=false/\b2=false:=uB.1 hd.symm;have HR:Hid (vS w0 F gt (gf,()) (vT s.k x (j+1)) T w wr):=(by show _;rw[HN.o];exact aL.o);clear hd;go_wp2;go_roundw;case rel=>exact⟨j+1,by omega,by go_num,HR⟩
    case measure=>simp[intOf];omega
   | true=>
    have a7:b1=true\/(b1=false/\b2=true):=Ye hd.symm;clear hd;obtain⟨p,Hp⟩:=zD (y.fo.nd 0 j);obtain⟨p',o',HO⟩:∃p' o',Hid (ownU y.ow s.k p=(p',o')):=⟨_,_,Lib.hid rfl⟩;have aR:=aB.o.2.2 j Y;rw[Hp.o]at aR;have cN:Hid (o'.fo.nd=y.fo.nd):=(by show _=_;have h1:=Yc y.ow s.k p;rw[HO.o]at h1;exact h1);have d3:Hid (∀W:World,Below wr wr W->Calls prog 82 #[(gt,()),p] W
     (fun e w'=>e=.returned p'/\vS w0 F gt (gf,()) (y.wow o') T1 W w')):=fun W hW=>by
     have h1:=Z2 HF.o (ak.o.trans (hW.mono ak.o.size)) (B.o.below hW) (by have:=aB.o;omega) p (by have:=aB.o;omega);rw[HO.o]at h1;exact h1
    have HS:Hid (∀W0 W:World,Below wr wr W0->vS w0 F gt (gf,()) (y.wow o') T1 W0 W->(W.cell? (gt,1+j)=some (.int .i64 p)/\W.frozen? (gt,1+j)=false)/\vS w0 F gt (gf,()) (vT s.k x (j+1)) T w (W.setCell (gt,1+j) (.int .i64 p'))):=fun W0 W hW cZ=>by
     obtain⟨T2,u1,u2,u3,u4⟩:=cZ;obtain⟨dd,dJ,dt,dE,di,dN,E2,eH,aM⟩:=u1.lies;refine⟨⟨?_,zF aM.row⟩,?_⟩
     .rw[aM.full j Y];show some (Value.int .i64 (o'.fo.nd 0 j))=_;rw[cN.o,Hp.o]
     .have bH:(W.setCell (gt,1+j) (.int .i64 p')).heap[gt]?=some (.cells (txR (gf,()) (ndF (y.wow o').fo j p') dd (.slice (some ⟨dJ,0,none⟩) 32 dt) (.map (some dE)) (.map (some di)) dN (y.wow o').full (y.wow o').fake) 150):=(by rw[<-txR_nd _ _ _ _ _ _ _ _ _ j Y];exact zX _ _ (1+j) _ _ _ aM.row);have h5:=aM.putHas u1 (ndF (y.wow o').fo j p') (yK.setCell (F:=fun i=>i=gt) (p:=⟨gt,1+j,none⟩) rfl _) bH;have h6:=vS.join u2 u3 u4 h5;have h7:=vS.after B.o hW h6;have h8:=vS.join O.o.1 O.o.2.1 O.o.2.2 h7;rw[HN.o,ze rfl];unfold pW;rw[Hp.o,HO.o];exact h8
    have m0:wr.cell? (gt,1+j)=some (.int .i64 p):=(by rw[HL.o.full j Y,Hp.o]);have U:wr.frozen? (gt,1+j)=false:=zF HL.o.row;clear aR;rcases a7 with rfl|⟨rfl,rfl⟩;all_goals
     go_upto_region 7 with fail
     go_region_with (first
      | (go_at_call 82;go_loud ((with_reducible refine (d3.o wr.drew zB.drew).mono ?_);(rintro e w3 ⟨rfl,bR⟩);(obtain⟨⟨eI,eh⟩,bM⟩:=HS.o wr.drew w3 zB.drew bR);(have cO:=Lib.hid bM);clear bR bM)))
     all_goals
      go_wp2_with fail
      go_roundw;case rel=>exact⟨j+1,by omega,by go_num,cO⟩
      case measure=>simp[intOf];omega
  .obtain rfl:j=16:=(by omega);obtain⟨fl,aN⟩:=zD y.full;rw[aN.o]at ac;cases fl with
   | true=>
    have HE:Hid (endE s x=6):=(by show _=_;unfold endE;rw[HZ.o,zb (by decide),Hy.o,aN.o,ze rfl]);have HR:=Lib.hid (aX.o wr ak.o (by rw[HE.o];decide));clear c0 M I V t J N hl;go_wp2;go_ret;exact⟨by rw[HE.o];rfl,HR.o⟩
   | false=>
   have HE:Hid (endE s x=0):=(by show _=_;unfold endE;rw[HZ.o,zb (by decide),Hy.o,aN.o,zb (by decide)]);have hok:=cU.o HZ.o (by rw[Hy.o];exact aN.o);have ax:=Lib.hid hok;obtain⟨s1,s2,s3,s4,s5⟩:=V1 s.k x 16;rw[Hy.o]at s1 s2 s3 s4 s5;have az:Hid (y.nodes=x.nodes/\y.dirty=x.dirty/\y.put=x.put/\y.gone=x.gone/\y.rows=x.rows):=⟨s1,s2,s3,s4,s5⟩;have ck:Hid (∀j,sA y j=sA x j):=fun j=>(by unfold sA;rw[s2]);clear c0 M I V t J N hl hok s1 s2 s3 s4 s5;go_wp2;clear ac;go_loopw [57] (fun iv wq=>∃j:Nat,j<=16/\iv=.int .i64 j/\Hid (vS w0 F gt (gf,()) {y with put:=rn y j} T w wq)) (fun iv _=>16-(intOf iv).toNat);case atStart=>exact⟨0,by omega,rfl,aL⟩
   case round=>
    obtain⟨j,hj,rfl,ba⟩:=hrel;obtain⟨G,an⟩:∃z:Tx,Hid ({y with put:=rn y j}=z):=⟨_,Lib.hid rfl⟩;rw[an.o]at ba;have al:Hid (G.nodes=x.nodes/\G.dirty=x.dirty/\G.fo=y.fo/\G.put.length<=816):=(by rw[<-an.o];exact⟨az.o.1,az.o.2.1,rfl,by have h1:=J4 y j;rw[az.o.2.2.1]at h1;show (rn y j).length<=816;omega⟩);obtain⟨T1,t1,t2,t3,t4⟩:=ba.o;have B:=Lib.hid t1;have O:Hid ((∀i,T1 i->T i\/w.heap.size<=i)/\yK T w wr/\∀i,T i->T1 i):=⟨t2,t3,t4⟩;have ak:Hid (Below w0 w0 wr):=ay.o.trans (t3.to_below H.o.new ay.o.size);obtain⟨rv,S,cn,gd,gp,gv,E,pl,hl⟩:=t1.lies;obtain⟨c0,M,I,V,t,J,ac,N⟩:=sZ hl.row;clear t1 t2 t3 t4 ac;by_cases Y:j<16
    .have aD:(j:Int)<16:=(by omega);obtain⟨m,Hm⟩:=zD (2*j);obtain⟨U,aK⟩:=zD (2*j+1);have aU:m<32:=(by have:=Hm.o;omega);have a5:U<32:=(by have:=aK.o;omega);have aa:=hl.dirt.look (k:=2*(j:Int)+1) intT pw (la wr) (by unfold InZ;omega);have ae:=hl.dirt.look (k:=2*(j:Int)+2) intT pw (la wr) (by unfold InZ;omega);rw[al.o.2.1,bP.o]at aa ae;have af:Hid (sA x j=((getZ x.dirty (2*(j:Int)+1)).isSome||(getZ x.dirty (2*(j:Int)+2)).isSome)):=Lib.hid rfl;obtain⟨b1,bs⟩:=zD ((getZ x.dirty (2*(j:Int)+1)).isSome);obtain⟨b2,bv⟩:=zD ((getZ x.dirty (2*(j:Int)+2)).isSome);rw[bs.o]at aa af;rw[bv.o]at ae af;rw[show 2*(j:Int)+1=((U:Nat):Int) by have:=aK.o;omega]at aa;have i1:IntKind.i64.wrap (2*(j:Int))=(m:Int):=(by rw[show 2*(j:Int)=(m:Int) by have:=Hm.o;omega];exact zQ _ (by omega));have i2:IntKind.i64.wrap ((m:Int)+1)=(U:Int):=(by rw[show (m:Int)+1=(U:Int) by have:=Hm.o;have:=aK.o;omega];exact zQ _ (by omega));have i3:IntKind.i64.wrap ((m:Int)+2)=2*(j:Int)+2:=(by rw[show (m:Int)+2=2*(j:Int)+2 by have:=Hm.o;omega];exact zQ _ (by omega));obtain⟨d,Hd⟩:=zD (sA x j);rw[Hd.o]at af;have hd:=af.o;cases d with
     | false=>
      obtain⟨rfl,rfl⟩:b1=false/\b2=false:=uB.1 hd.symm;have HR:Hid (vS w0 F gt (gf,()) {y with put:=rn y (j+1)} T w wr):=(by have e:rn y (j+1)=rn y j:=(by show (if sA y j=true then _ else rn y j)=_;rw[ck.o,Hd.o,zb (by decide)]);show vS _ _ _ _ _ _ _ _;rw[e,an.o];exact ba.o);clear hd hl;go_wp2;go_roundw;case rel=>exact⟨j+1,by omega,by go_num,HR⟩
      case measure=>simp[intOf];omega
     | true=>
      have a7:b1=true\/(b1=false/\b2=true):=Ye hd.symm;clear hd;obtain⟨X0,a4⟩:∃X,x.nodes[m]?=some X:=⟨_,zf (by rw[H.o.len];exact aU)⟩;obtain⟨C,a3⟩:∃X,x.nodes[U]?=some X:=⟨_,zf (by rw[H.o.len];exact a5)⟩;have bo:ju X0=0:=ax.o.nd X0 (xK a4);have br:ju C=0:=ax.o.nd C (xK a3);have ar:Hid ((rL X0).length=32/\(rL C).length=32):=⟨WP bo,WP br⟩;obtain⟨p,Hp⟩:=zD (y.fo.nd 0 j);have dk:Hid (0<=p/\p<=950000):=(by have h1:=aB.o.2.2 j Y;have h2:=aB.o.2.1;rw[Hp.o]at h1;show _/\_;omega);have d0:Hid ({y with put:=rn y (j+1)}={G with put:=putZ G.put p (rL X0++rL C)}):=(by have e:rn y (j+1)=putZ (rn y j) p (rL X0++rL C):=(by show (if sA y j=true then putZ (rn y j) (y.fo.nd 0 j) (rL (y.nodes.getD (2*j) zN)++rL (y.nodes.getD (2*j+1) zN)) else rn y j)=_;rw[ck.o,Hd.o,ze rfl,Hp.o,aK.o,Hm.o,az.o.1,zh,zh,a4,a3];rfl);show _=_;rw[e,<-an.o]);have HL:=Lib.hid hl;rw[<-al.o.1]at a4 a3;obtain⟨yq,yn,yc,y0,y1,y2,y3,y4,y5,y6,y7,hy⟩:=hl.nodeAt B.o.len m aU X0 a4;obtain⟨zq,zn,zc,z0,z1,z2,z3,z4,z5,z6,z7,hz⟩:=hl.nodeAt B.o.len U a5 C a3;have A:Hid (S<wr.heap.size/\gt<wr.heap.size):=⟨(hl.own.lt S rfl).2,xL hl.row⟩;have ah:Hid (wr.cell? (S,U*8)=some (.int .i64 C.k)/\wr.cell? (S,U*8+1)=some (.int .i64 C.m)/\wr.cell? (S,U*8+2)=some (.int .i64 C.u)/\wr.cell? (S,U*8+3)=some (.int .i64 C.g)/\wr.cell? (S,U*8+4)=some (.int .i64 C.s)/\wr.cell? (S,U*8+5)=some (.int .i64 C.l)/\wr.cell? (S,U*8+6)=some (.int .i64 C.up)/\wr.cell? (S,U*8+7)=some (.slice zq zn zc)):=⟨z0,z1,z2,z3,z4,z5,z6,z7⟩;have bl:=Lib.hid I;have dP:=Lib.hid (VT X0.k X0.m X0.u X0.g X0.s X0.l X0.up (yq,yn,yc) X0.P wr hy.now bo);have be:Hid (∀W:World,Below wr wr W->Calls prog 84 #[.agg #[C.k,C.m,C.u,C.g,C.s,C.l,C.up,(zq,zn,zc)]] W (WK C.k C.m C.u C.g C.s C.l C.up C.P W)):=fun W hW=>VT _ _ _ _ _ _ _ _ _ W (xT.below hz.now hW) br;have cr:Hid (wr.cell? (gt,1+j)=some (.int .i64 p)/\wr.cell? (gt,196)=some (.map (some gp))):=⟨by rw[hl.full j Y,al.o.2.2.1,Hp.o],t⟩;have dW:(U:Int)<32:=(by omega);have en:(m:Int)<32:=(by omega);clear z0 z1 z2 z3 z4 z5 z6 z7 hl hy hz c0 M J N a4 a3 bo br;rcases a7 with rfl|⟨rfl,rfl⟩;all_goals
       go_wp2_with fail
       refine dP.o.mono ?_;rintro e w5 ⟨ga,rfl,cS,bV,bO⟩;have Z:=Lib.hid bO;have ds:=Lib.hid bV;have bt:=(Z.o.cell (p:=⟨gt,194,none⟩) A.o.2).trans bl.o;have z0:=(Z.o.cell (p:=⟨S,U*8,none⟩) A.o.1).trans ah.o.1;have z1:=(Z.o.cell (p:=⟨S,U*8+1,none⟩) A.o.1).trans ah.o.2.1;have z2:=(Z.o.cell (p:=⟨S,U*8+2,none⟩) A.o.1).trans ah.o.2.2.1;have z3:=(Z.o.cell (p:=⟨S,U*8+3,none⟩) A.o.1).trans ah.o.2.2.2.1;have z4:=(Z.o.cell (p:=⟨S,U*8+4,none⟩) A.o.1).trans ah.o.2.2.2.2.1;have z5:=(Z.o.cell (p:=⟨S,U*8+5,none⟩) A.o.1).trans ah.o.2.2.2.2.2.1;have z6:=(Z.o.cell (p:=⟨S,U*8+6,none⟩) A.o.1).trans ah.o.2.2.2.2.2.2.1;have z7:=(Z.o.cell (p:=⟨S,U*8+7,none⟩) A.o.1).trans ah.o.2.2.2.2.2.2.2;clear cS bV bO;go_wp2_with fail
       refine (be.o w5 Z.o).mono ?_;rintro e w6 ⟨gb,rfl,db,cs,bm⟩;have bb:=Lib.hid (Below.step Z.o bm);have d8:=Lib.hid cs;have cw:=Lib.hid (we bm ds.o);clear db cs bm bt z0 z1 z2 z3 z4 z5 z6 z7 y0 y1 y2 y3 y4 y5 y6 y7 aa ae I V t;obtain⟨i0,u1,u2,u3,u4⟩:=xp jt;have HU:Hid (prog.info? 5=some i0/\i0.zero=some (.int .u8 0)/\i0.size=1/\i0.bytes=1/\(Value.int .u8 0).cells.size=1):=⟨u1,u2,u3,u4,rfl⟩;have dc:Hid (w0.heap.size<=w6.heap.size):=zr ak.o.size bb.o.size;clear u1 u2 u3 u4
       go_upto_region 19 with fail
       refine Hh (by kernel_rfl) (by kernel_rfl) (fun u u'=>Below u u u') (zB.drew) (fun u u' h1 h2=>Below.step h1 h2) 155 [109,110,111,112,113,114,115,116,117,118,119,120,121,122,123] (epF gt gp j p w0 ga gb (rL X0++rL C)) RT 15 (by kernel_rfl) (by kernel_rfl) ⟨rfl,rfl⟩ ?_ ?_
       .intro Dn b u Q i o bZ c dA L;have bU:=Q.old 0 (gt,()) ⟨by decide,by decide,rfl⟩;have dw:=Q.old 4 (.int .i64 (j:Int)) ⟨by decide,by decide,rfl⟩;have d6:=Q.old 5 (.slice (some ⟨ga,0,none⟩) 32 32) ⟨by decide,by decide,rfl⟩;have dy:=Q.old 7 (.slice (some ⟨gb,0,none⟩) 32 32) ⟨by decide,by decide,rfl⟩;have ab:=Below.step bb.o Q.b;have de:u.cell? (gt,1+j)=some (.int .i64 p):=(ab.cell (p:=⟨gt,1+j,none⟩) A.o.2).trans cr.o.1;have dg:u.cell? (gt,196)=some (.map (some gp)):=(ab.cell (p:=⟨gt,196,none⟩) A.o.2).trans cr.o.2
        match i,bZ,c,dA,L with
        | 0,_,c,_,L=>
         simp only[zj,zw]at c;subst c;exact qC (.tmp 0) rfl ⟨_,rfl,zB,bU,fun D=>yb D (by decide)⟩
        | 1,_,c,_,L=>
         simp only[zj,zk,zw]at c;subst c;have e0:=(Q.fact 0 (L ⟨0,.data⟩ (by simp) rfl)).1;exact mv (.tmp 109) rfl ⟨gt,0,none⟩ e0 ⟨_,rfl,zB,rfl,fun D=>yb D (by decide)⟩
        | 2,_,c,_,L=>
         simp only[zj,zk,zw]at c;subst c;have e1:=(Q.fact 1 (L ⟨1,.data⟩ (by simp) rfl)).1;exact sK (v:=(.pointer (some ⟨gt,196,none⟩))) (w':=u) (by unfold execOp;simp only[Act.eval];rw[show b.tmps.getD 110 undef=_ from e1];simp[go_sem]) ⟨_,rfl,zB,rfl,fun D=>yb D (by decide)⟩
        | 3,_,c,_,L=>
         simp only[zj,zk,zw]at c;subst c;have e2:=(Q.fact 2 (L ⟨2,.data⟩ (by simp) rfl)).1;exact sK (v:=(.map (some gp))) (w':=u) (by unfold execOp;simp only[Act.eval];rw[show b.tmps.getD 111 undef=_ from e2];simp[go_sem,dg]) ⟨_,rfl,zB,rfl,fun D=>yb D (by decide)⟩
        | 4,_,c,_,L=>
         simp only[zj,zk,zw]at c;subst c;exact qC (.tmp 0) rfl ⟨_,rfl,zB,bU,fun D=>yb D (by decide)⟩
        | 5,_,c,_,L=>
         simp only[zj,zk,zw]at c;subst c;exact qC (.tmp 4) rfl ⟨_,rfl,zB,dw,fun D=>yb D (by decide)⟩
        | 6,_,c,_,L=>
         simp only[zj,zk,zw]at c;subst c;have e4:=(Q.fact 4 (L ⟨4,.data⟩ (by simp) rfl)).1;exact mv (.tmp 113) rfl ⟨gt,0,none⟩ e4 ⟨_,rfl,zB,rfl,fun D=>yb D (by decide)⟩
        | 7,_,c,_,L=>
         simp only[zj,zk,zw]at c;subst c;have e6:=(Q.fact 6 (L ⟨6,.data⟩ (by simp) rfl)).1;exact sK (v:=(.pointer (some ⟨gt,1,none⟩))) (w':=u) (by unfold execOp;simp only[Act.eval];rw[show b.tmps.getD 115 undef=_ from e6];simp[go_sem]) ⟨_,rfl,zB,rfl,fun D=>yb D (by decide)⟩
        | 8,_,c,_,L=>
         simp only[zj,zk,zw]at c;subst c;have e7:=(Q.fact 7 (L ⟨7,.data⟩ (by simp) rfl)).1;exact sK (v:=(.pointer (some ⟨gt,1,none⟩))) (w':=u) (by unfold execOp;simp only[Act.eval];rw[show b.tmps.getD 116 undef=_ from e7];simp[go_sem]) ⟨_,rfl,zB,rfl,fun D=>yb D (by decide)⟩
        | 9,_,c,_,L=>
         simp only[zj,zk,zw]at c;subst c;have e8:=(Q.fact 8 (L ⟨8,.data⟩ (by simp) rfl)).1;exact sK (v:=(.pointer (some ⟨gt,1,none⟩))) (w':=u) (by unfold execOp;simp only[Act.eval];rw[show b.tmps.getD 117 undef=_ from e8];simp[go_sem]) ⟨_,rfl,zB,rfl,fun D=>yb D (by decide)⟩
        | 10,_,c,_,L=>
         simp only[zj,zk,zw]at c;subst c;have e9:=(Q.fact 9 (L ⟨9,.data⟩ (by simp) rfl)).1;have e5:=(Q.fact 5 (L ⟨5,.data⟩ (by simp) rfl)).1;exact sK (v:=(.pointer (some (gt,1+j)))) (w':=u) (by unfold execOp;simp only[Act.eval];rw[show b.tmps.getD 118 undef=_ from e9,show b.tmps.getD 114 undef=_ from e5];simp[go_sem,aD]) ⟨_,rfl,zB,rfl,fun D=>yb D (by decide)⟩
        | 11,_,c,_,L=>
         simp only[zj,zk,zw]at c;subst c;have cW:=(Q.fact 10 (L ⟨10,.data⟩ (by simp) rfl)).1;exact sK (v:=(.int .i64 p)) (w':=u) (by unfold execOp;simp only[Act.eval];rw[show b.tmps.getD 119 undef=_ from cW];simp[go_sem,de]) ⟨_,rfl,zB,rfl,fun D=>yb D (by decide)⟩
        | 12,_,c,_,L=>
         simp only[zj,zk,zw]at c;subst c;exact qC (.tmp 5) rfl ⟨_,rfl,zB,d6,fun D=>yb D (by decide)⟩
        | 13,_,c,_,L=>
         simp only[zj,zk,zw]at c;subst c;exact qC (.tmp 7) rfl ⟨_,rfl,zB,dy,fun D=>yb D (by decide)⟩
        | 14,_,c,_,L=>
         simp only[zj,zk,zw]at c;subst c;have d4:=(Q.fact 12 (L ⟨12,.data⟩ (by simp) rfl)).1;have dB:=(Q.fact 13 (L ⟨13,.data⟩ (by simp) rfl)).1;have dx:=we Q.b cw.o;have cX:=we Q.b d8.o;refine Ge (.tmp 121) (.tmp 122) 23 rfl 5 i0 (.int .u8 0) 1 1 u8sT HU.o.1 HU.o.2.1 HU.o.2.2.1 HU.o.2.2.2.1 HU.o.2.2.2.2 (by decide) ⟨ga,0,none⟩ 32 32 (u8s (rL X0)) (by simp only[Act.eval];exact d4) (by rw[vO,ar.o.1]) (XG dx) ⟨gb,0,none⟩ 32 32 (u8s (rL C)) (by simp only[Act.eval];exact dB) (by rw[vO,ar.o.2]) (XG cX) (by decide) (by unfold maxLen;decide) (by decide) ?_;intro v' w' bN dO;refine⟨_,rfl,(xW _ u).grown dO zL (fun k hk=>by cases hk),trivial,fun _=>?_⟩;exact Ph bN (by rw[zl,ar.o.1,ar.o.2]) (qh _ _) (zr dc.o Q.b.size)
        | n+15,bZ,_,_,_=>omega
       .intro Dn b u Q ap o c f Hf c4;simp only[zj,zk,zw]at c;subst c;have e3:b.tmps.getD 112 undef=.map (some gp):=(Q.fact 3 (ap 3 (by omega))).1;have cy:b.tmps.getD 120 undef=.int .i64 p:=(Q.fact 11 (ap 11 (by omega))).1;have bd:su u w0 (b.tmps.getD 123 undef) (rL X0++rL C):=(Q.fact 14 (ap 14 (by omega))).2 rfl;have ab:=Below.step bb.o Q.b;have a9:=HL.o.below ab;have cb:=B.o.below ab;generalize bL:b.tmps.getD 123 undef=u6 at bd;obtain⟨w7,aY,co,ch⟩:=a9.puts.store intT mz (by have h1:pl.length=G.put.length:=a9.secs.len;have h2:=al.o.2.2.2;omega) (k:=p) (by have:=dk.o;unfold InZ;omega) u6;refine K7 (w':=w7) (by unfold execOp;simp only[Act.eval];rw[e3,cy,bL];simp[aY,Result.andThen]) ?_;have bi:yK (fun i=>i=gp) u w7:=yK.grown ch.grown (fun r hr=>by injection hr with hr;exact hr.symm);have bK:=a9.putMap cb p _ (rL X0++rL C) bd bi co (by have h2:=al.o.2.2.2;omega);have cd:yK T1 wr w7:=(yK.of_below ab).step (bi.mono fun i _ hi=>by rw[hi];exact a9.tp);have bT:Hid (vS w0 F gt (gf,()) {y with put:=rn y (j+1)} T w w7):=(by refine⟨T1,?_,O.o.1,O.o.2.1.trans cd O.o.1,O.o.2.2⟩;rw[d0.o];exact bK);rename_i K hK;refine hK _ _ ?_;rw[c4];simp only[Act.put,wS,jR,zM,yj,yh];clear e3 cy bd bL a9 cb aY co ch bi bK cd c4 Hf ap Q ab;go_wp2;refine⟨?_,?measure⟩
        repeat apply Exists.intro
        refine⟨?rel,rfl⟩;case rel=>exact⟨j+1,by omega,by go_num,bT⟩
        case measure=>simp[intOf];omega
    .obtain rfl:j=16:=(by omega);obtain⟨z,Hz⟩:∃z:Tx,Hid (jW y=z):=⟨_,Lib.hid rfl⟩;have d9:G=z:=(by rw[<-an.o,<-Hz.o];rfl);subst d9;have ai:Hid (G.gone=x.gone/\G.rows=x.rows/\G.nodes=x.nodes/\pP G x.gone.length=endT s.k x):=(by refine⟨by rw[<-an.o];exact az.o.2.2.2.1,by rw[<-an.o];exact az.o.2.2.2.2,al.o.1,?_⟩;unfold endT;rw[Hy.o,Hz.o]);have HL:Hid (uP wr w0 F T1 gt (gf,()) (pP G 0) rv S cn gd gp gv E pl):=(by show uP _ _ _ _ _ _ _ _ _ _ _ _ _ _ _;rw[Li];exact hl);have bp:=hl.gone;rw[ai.o.1]at bp;obtain⟨q,cg,rfl,cl⟩:=tR bp;have cl:=Lib.hid cl;clear hl c0 M I V t N;have ci:wr.cell? (gt,197)=some (.slice q x.gone.length cg):=J;clear J bp;have dC:Hid (x.gone.length<=1000):=H.o.gone;obtain⟨m,Hm⟩:=zD x.gone.length;rw[Hm.o]at ci;have eV:m<=1000:=(by have h1:=dC.o;have h2:=Hm.o;omega);go_wp2;go_loopw [130] (fun iv wq=>∃j aI,j<=m/\iv=.int .i64 (j:Int)/\Hid (uP wq w0 F T1 gt (gf,()) (pP G j) rv S cn gd gp (q,x.gone.length,cg) E aI)/\Hid (yK T1 wr wq)) (fun iv _=>m-(intOf iv).toNat);case atStart=>exact⟨0,pl,by omega,rfl,HL,yK.refl _ _⟩
     case round=>
      obtain⟨j,aI,eu,rfl,aw,cm⟩:=hrel;obtain⟨c0,M,I,V,t,J,ac,N⟩:=sZ aw.o.row;clear c0 M I V J ac N;have dl:=Lib.hid t;clear t;by_cases df:j<m
      .have a6:j<x.gone.length:=(by rw[Hm.o];exact df);have cu:wr.ownsRow w0 3 1 (q,x.gone.length,cg) x.gone.length (ints x.gone):=(by have h9:wr.ownsRow w0 3 1 (q,x.gone.length,cg) G.gone.length (ints G.gone):=aw.o.gone;rw[ai.o.1]at h9;exact h9);obtain⟨q2,c2,cV,cf⟩:=tR cu;injection cV with e1 _ e2;subst e1 e2;obtain⟨gg,rfl,dv,bY⟩:=cf (by omega);have da:=ax.o.gone _ (zz a6);obtain⟨p,Hp⟩:∃p:Nat,Hid (x.gone[j]' a6=(p:Int)):=⟨(x.gone[j]' a6).toNat,by show _=_;omega⟩;have dH:p<256:=(by have:=Hp.o;omega);have cj:=bY j _ (mt x.gone j a6);rw[Hp.o]at cj;have dr:Hid (G.gone[j]?=some (p:Int)):=(by show _=_;rw[ai.o.1,zf a6,Hp.o]);have bJ:(j:Int)<(m:Int):=(by omega);obtain⟨yg,bW⟩:∃z:Tx,Hid (pP G j=z):=⟨pP G j,Lib.hid rfl⟩;rw[bW.o]at aw;obtain⟨R,HR⟩:=zD (txR (gf,()) yg.fo rv (.slice (some ⟨S,0,none⟩) 32 cn) (.map (some gd)) (.map (some gp)) (gg,0,x.gone.length,cg) yg.full yg.fake);have dD:Hid (R.size=200):=(by show _=_;rw[<-HR.o];exact qY _ _ _ _ _ _ _ _ _);obtain⟨S0,bj⟩:=zA (enc (yg.fo.hs 0));have ca:Hid (S0.size=32):=(by rw[bj.o];exact tF _);have cM:Hid (∀j,j<S0.size->R[17+j]?=S0[j]?):=(by rw[<-HR.o,bj.o];exact iA _ _ _ _ _ _ _ _ _);obtain⟨S1,aH⟩:=zA (enc (del (yg.fo.hs 0) p));have aW:Hid (S1.size=32):=(by rw[aH.o];exact tF _);have cz:Hid (S1.all (·.oneCell')=true):=(by rw[aH.o];exact lO _);have dK:Hid (∀W:World,Calls prog 85 #[.agg S0,p] W fun e w'=>e=.returned (.agg S1)/\Below W W w'):=fun W=>(by have:=K8 (yg.fo.hs 0) (p:Int) W (by omega) (by omega);rw[yy]at this;rw[bj.o,aH.o];exact this);obtain⟨R1,aQ⟩:=zD (txR (gf,()) (hasF yg.fo (del (yg.fo.hs 0) p)) rv (.slice (some ⟨S,0,none⟩) 32 cn) (.map (some gd)) (.map (some gp)) (gg,0,x.gone.length,cg) yg.full yg.fake);have be:Hid ((R.toList.take 17++S1.toList++R.toList.drop (17+S1.size)).toArray=R1):=(by rw[<-HR.o,aH.o,<-aQ.o];exact Ku _ _ _ _ _ _ _ _ _ _);have a8:=aw.o.row;rw[HR.o]at a8;have aV:=Lib.hid a8;clear a8 cu bY cf da dv
       go_upto_region 24 with fail
       refine fF 13 (by kernel_rfl) (by kernel_rfl) ?_;simp only[wV,xE,wX,wz]
       repeat (first
        | go_big_quiet_skip
        | (refine Vc rfl 91 (.tmp 139) rfl gt 17 rfl 150 R S0 (0,0) _ (fun _ hw=>fU hw aV.o) cM.o setT rfl (by rw[ca.o];exact setI) ?_;simp only[Act.put,zM,yj,yh])
        | (refine qD 85 #[.tmp 140,.tmp 141] #[91,3] rfl rfl (fun _ _=>by kernel_rfl) #[.agg S0,p] (by kernel_rfl) (.agg S1) (fun _ _=>qk) (fun w' _=>dK.o w') ?_;simp only[Act.put,zM,yj,yh])
        | (go_big_quiet_want;go_big_quiet_op;go_big_quiet_on))
       refine vq ?_;intro u bx;have dz:=Lib.hid (sL bx);have aC:=Lib.hid (we (sL bx) aV.o);clear bx;have bE:(u.setRow gt R1).heap[gt]?=some (.cells (txR (gf,()) (hasF yg.fo (del (yg.fo.hs 0) p)) rv (.slice (some ⟨S,0,none⟩) 32 cn) (.map (some gd)) (.map (some gp)) (gg,0,x.gone.length,cg) yg.full yg.fake) 150):=(by rw[aQ.o];exact yi _ _ _ _ _ _ aC.o);have b0:yK (fun i=>i=gt) wr (u.setRow gt R1):=(yK.of_below dz.o).step (yK.setRow (F:=fun i=>i=gt) rfl _);have a0:=Lib.hid (aw.o.withFo B.o.self _ b0 bE);have d2:=Lib.hid b0;have t:=(sZ a0.o.row).2.2.2.2.1;have dn:=Lib.hid a0.o.puts;clear bE b0;go_wp2_with (first|(refine jr rfl 91 (.tmp 146) (.tmp 142) rfl gt 17 S1 rfl rfl 150 R R1 aC.o (by rw[aW.o];exact setI) (by rw[aW.o,dD.o];omega) cz.o be.o ?_)|(refine Hk _ rfl _ _ _ _ rfl 23 intT mz gp aI (p:Int) rfl dn.o rfl (by unfold InZ;omega) ?_;intro w9 cp bQ))
       have aj:yK (fun i=>i=gp) (u.setRow gt R1) w9:=yK.grown bQ.grown (fun r hr=>by injection hr with hr;exact hr.symm);have dh:Hid (uP w9 w0 F T1 gt (gf,()) (pP G (j+1)) rv S cn gd gp (gg,0,x.gone.length,cg) E (delZ aI (p:Int))):=(by show uP _ _ _ _ _ _ _ _ _ _ _ _ _ _ _;rw[Lj G j (p:Int) dr.o,yy,bW.o];exact a0.o.withPut aj cp (te.drop (a0.o.secs.keep fun g cc _ D=>aj.block g (xL D) (tG D a0.o.puts))));have bn:Hid (yK T1 _ w9):=cm.o.step ((d2.o.mono fun i _ hi=>by rw[hi];exact B.o.self).step (aj.mono fun i _ hi=>by rw[hi];exact a0.o.tp));clear t aj cp bQ;refine⟨⟨j+1,by omega,by omega,⟨_,dh⟩,bn⟩,?_⟩;simp[intOf];omega
      .obtain rfl:j=m:=(by omega);have bJ:¬((j:Int)<(j:Int)):=(by omega);have bg:=cm.o;have ce:=ak.o.trans (bg.to_below B.o.new ak.o.size);have bq:=aw.o;rw[<-Hm.o,ai.o.2.2.2]at bq;have c5:(endT s.k x).put.length<=816:=(by rw[<-ai.o.2.2.2];have h1:=Rr (G.gone.take x.gone.length) G.put;have h3:=al.o.2.2.2;show (gonP G.put (G.gone.take x.gone.length)).length<=816;omega);have am:(endT s.k x).gone=G.gone/\(endT s.k x).dirty=G.dirty/\(endT s.k x).rows=G.rows/\(endT s.k x).fake=G.fake/\(endT s.k x).nodes=G.nodes:=(by rw[<-ai.o.2.2.2];exact⟨rfl,rfl,rfl,rfl,rfl⟩);have bX:=uP.at bq B.o.self (by rw[am.2.2.2.2];exact B.o.len) (fun i hi=>zm (B.o.fin i hi) bg.size) B.o.new (by rw[am.1];exact B.o.gone) (by omega) (by rw[am.2.1];exact B.o.dirty) (by rw[am.2.2.1];exact B.o.rows) (by rw[am.2.2.2.1];exact B.o.fake);have dm:=Lib.hid (Sb HF.o ce bX cP.o ax.o.rf (by rw[am.2.2.1,ai.o.2.1];exact ax.o.rq) aA (by omega) ax.o.sync);have d5:Hid (endS s x=mn (endT s.k x) s):=(by show _=_;unfold endS;rw[ze HE.o]);clear bg ce bq bX c5 am;go_wp2_with fail
       refine dm.o.mono ?_;rintro e w9 ⟨rfl,aj⟩;have bn:=Lib.hid aj;clear aj;go_wp2;go_ret;exact⟨by rw[HE.o];rfl,by rw[d5.o];exact bn.o⟩
