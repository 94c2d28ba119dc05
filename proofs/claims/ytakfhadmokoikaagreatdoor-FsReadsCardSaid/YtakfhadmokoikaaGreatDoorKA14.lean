import Derived.Test.YtakfhadmokoikaaGreatDoorKA4
import Derived.Test.YtakfhadmokoikaaGreatDoorKA11
import Derived.Deep.RegionHeld3
import Derived.Deep.AppendLies
set_option maxHeartbeats 0
set_option linter.all false
set_option maxRecDepth 100000
namespace Go.Proofs.YtakfhadmokoikaaGreatDoor
open Go.Proofs.Tryz Go.RowKit
variable {P bs:List Int} {a:Act} {o:Oper} {w:World}
abbrev tr:=@step_append_lies
abbrev xU:=@World.news_of_block
def iW (bs:List Int) (w:World) (e:Ending) (w':World):Prop:=
 (mi bs/\∃v,e=.returned (.tuple #[v,()])/\vQ w' v (sY bs).1/\Below w w w'/\∀b,v.ownBlock=some b->w.heap.size<=b) \/
 (¬mi bs/\e=.returned (.tuple #[.slice none 0 0,(3:Int)])/\Below w w w')
theorem Jc {a b:ByteArray} (h:a.toList=b.toList):a=b:=by
 rw[ByteArray.toList_eq,ByteArray.toList_eq]at h;cases a;cases b;simp only[ByteArray.mk.injEq]at *
 exact mR.1 h
theorem YR : ∀(bs:List Int),(∀x,x∈bs->0<=x/\x<=255)->∀y,y∈pG bs->(0<=y.1/\y.1<=255)/\0<=y.2/\y.2<=255
 | [],_,y,b=>by simp[pG]at b
 | [_],_,y,b=>by simp[pG]at b
 | a::n::r,h,y,b=>by
  rw[pG]at b;split at b
  .rcases yN.1 b with rfl|b
   .exact⟨h a (by simp),h n (by simp)⟩
   .exact YR r (fun x c=>h x (by simp[c])) y b
  .simp at b
theorem SO {l:List (Int×Int)} (h:∀x,x∈l->(0<=x.1/\x.1<=255)/\0<=x.2/\x.2<=255):∀y,y∈sk l->0<=y/\y<=255:=by
 intro y a;rcases yv.1 a with a|a
 .obtain⟨x,b,a⟩:=wU.1 a;have:=h x b;simp at a;rcases a with rfl|rfl<;>omega
 .have:=x9 a;omega
theorem L8 (c:tI P=0):∀y,y∈sk (ofE P)->0<=y/\y<=255:=by refine SO fun x a=>?_;have b:=WN c;have:=(m8 P.length P rfl (gB c)).1 x (by simpa[ofE]using a);omega
theorem VS (b:tI P=0):(sk (ofE P)).length=16:=by
 have a:=WN b;have:=(m8 P.length P rfl (gB b)).2;simp only[sk,zl,zR,Km];have e:(ofE P).length=(ofR P).length:=by simp[ofE]
 omega
theorem Ip (w:World) (g n:Nat) (b:List Int) (t:TypeId) (c:b.length=n) (h:w.heap[g]?=some (.cells (byts b) t)):
 (convert 23 9 (g,0,n,n)).run prog w=.ok (.string (sg b)) w:=
 ZB w 23 9 5 g 0 n n b c (by kernel_rfl) (by kernel_rfl) (by kernel_rfl) (fun j v a=>by rw[yL,zC h];simpa[byts]using a)
theorem MY (v:Value) (n:List Int) (w:World) (h:vC w v n) (r:n.length≠16) (s:n.length<=1000000):
 Calls prog 140 #[v] w (iW n w):=by
 have _:=s;obtain⟨N,a⟩:=zA n.length;obtain⟨q,c,j⟩:∃p c,v=.slice p N c:=by
  rw[a.o];obtain⟨_,⟨k,d,e,rfl⟩|⟨g,o,b,rfl,m⟩⟩:=h
  .exact⟨d,e,by rw[k]⟩
  .exact⟨_,b,rfl⟩
 subst j;rw[<-a.o]at s r;have f:((N:Int) != 16)=true:=by rw[rF];omega
 have i:Hid (¬mi n):=fun l=>r (a.o.trans l.1);clear h r;go_enter func140,ntmps140;go_wp2;go_ret2;exact zu ⟨i.o,rfl,zB⟩
theorem Me (
 bs:List Int) (g af cap:Nat) (w:World) (hc:∀j (hj:j<bs.length),w.cell? (g,af+j)=some (.int .u8 bs[j])) (hn:bs.length=16) (hx:∀x,x∈bs->0<=x/\x<=255):
 Calls prog 140 #[.slice (some (g,af)) 16 cap] w (iW bs w):=by
 have HC:=Lib.hid hc;have M:=Lib.hid hn;have HX:=Lib.hid hx;have Z:=Lib.hid (YR bs hx);have ao:=0;clear hc hn hx ao;obtain⟨i0,hi,V,ac,aa⟩:=xp Yr;have HI:=Lib.hid hi;have a5:=Lib.hid V;have a6:=Lib.hid ac;have aq:=Lib.hid aa;clear hi V ac aa;go_enter func140,ntmps140;go_wp2;go_loopw [4,5] (fun o i wr=>∃(k m:Nat) (d:List (Int×Int)),m<=16/\i=.int .i64 m/\Hid (m=2*k/\d.length=k)/\Hid (d++pG (bs.drop (2*k))=pG bs)/\Hid (wr.ownsRow w 245 2 o d.length (wT d))/\Below w w wr) (fun _ i _=>16-(intOf i).toNat);case atStart=>exact⟨0,0,[],by omega,rfl,⟨rfl,rfl⟩,rfl,yW _ _ _ _,zB⟩
 case round=>
  obtain⟨k,m,d,hk,rfl,L,HR,T,y⟩:=hrel;by_cases aL:m<16
  .have a8:m<=14:=(by have:=L.o.1;omega);have h1:2*k<bs.length:=(by rw[M.o];have:=L.o.1;omega);have Y:2*k+1<bs.length:=(by rw[M.o];have:=L.o.1;omega);have e1:=HC.o (2*k) h1;have e2:=HC.o (2*k+1) Y;have c1:=(y.cell (zG e1)).trans e1;have c2:=(y.cell (zG e2)).trans e2;have r1:=HX.o _ (zz h1);have r2:=HX.o _ (zz Y);have hd:=OV bs k Y;obtain⟨a,ha⟩:=zA (bs[2*k]);obtain⟨n,hn⟩:=zA (bs[2*k+1]);rw[<-ha.out]at c1 r1 hd;rw[<-hn.out]at c2 r2 hd;rw[<-L.o.1]at c1 c2;have HD:=Lib.hid hd;clear e1 e2 hd;obtain⟨aU,aH⟩:=r1;obtain⟨R,aI⟩:=r2;have O:=(T.o.alloc (.cells #[a,n] 245)).lt;have U:=Lib.hid O;clear O;by_cases R:0<n
   .have s1:=zW ((m:Int)+1);have s2:0<=(m:Int)+1:=(by omega);have s3:((m:Int)+1).toNat=m+1:=(by omega);have s4:(m:Int)+1<16:=(by omega);have s5:(m:Int)<16:=(by omega);have s6:IntKind.i64.wrap a=a:=zQ _ (by omega);have s7:IntKind.i64.wrap n=n:=zQ _ (by omega);have hL:d.length<=7:=(by have:=L.o;omega);have ag:Value.ownBlock u4≠some g:=fun hq=>(by have h1:=(U.o g hq).1;have Y:=zG (HC.o 0 (by rw[M.o];omega));simp at Y;omega);have AG:=Lib.hid ag;have ak:=zG c1;simp only at ak;have aV:Hid (Below w w wr.drew):=⟨y.os,y.tape,y.output,y.size,y.block⟩;have ab:Hid (∀q,Value.ownBlock u4=some q->w.heap.size<=q):=fun q hq=>(U.o q hq).1;have aJ:=y.size;clear ag;go_wp2_with fail
    go_region_held3 (fun w'=>w'.cell? (g,af+m)=some (.int .u8 a)/\w'.cell? (g,af+(m+1))=some (.int .u8 n))
     (first
      | go_keep
      | (
       go_split_ands
       refine⟨?_,?_⟩
       ·(rw[s.cell_far _ (by simp;omega) (yF AG.out)];assumption)
       ·(rw[s.cell_far _ (by simp;omega) (yF AG.out)];assumption)))
     ((
      refine tr _ (by rfl) _ _ _ (by rfl) w.heap.size 245 i0 _ 2 16 j1 HI.o a5.o a6.o aq.o rfl (by omega) u4 d.length (wT d) (by rfl) ((T.o.alloc _).drew)
       ⟨wr.heap.size,0,none⟩ 1 1 [.int .i64 a,.int .i64 n] (by rfl) (by rfl) (xU (cs:=#[.int .i64 a,.int .i64 n]) (t:=245) (fr:=(0,0)) (zT wr _)) (by simp[Value.oneCell'])
       (by omega) (by unfold maxLen;omega) (by omega) (by simp;omega) (wr.heap.size+1) (by simp) ?_;intro gg W F N s a0 X))
    have au:Hid (F.ownsRow w 245 2 (gg,0,(d.length+1),W) (d++[(a,n)]).length (wT (d++[(a,n)]))):=(by rw[oW,zl];exact N);have az:Below w w F:=xC (lw (y.alloc y.size _) 1) s (by simp[World.drewN];omega) ab.o;have am:Hid ((d++[(a,n)])++pG (bs.drop (2*(k+1)))=pG bs):=(by rw[<-HR.o,HD.o,ze R];simp[Hid]);clear N s a0 X s1 s3 s6 s7;go_wp2;go_roundw;case rel=>exact⟨k+1,m+2,d++[(a,n)],by omega,by go_num,by have:=L.o;exact⟨by omega,by simp;omega⟩,am,au,az⟩
    case measure=>simp[intOf];omega
   .have l:Hid (d=pG bs):=(by rw[<-HR.o,HD.o,zb R];simp[Hid]);have a7:n=0:=(by omega);subst a7;have hL:d.length<=8:=(by have:=L.o;omega);obtain⟨q2,c2,ho,_⟩:=tR T.o;subst ho;go_wp2_with fail
    refine (Jk _ d _ (xT.of_owns T.o) (by omega) (fun x hx=>by rw[l.o]at hx;have:=Z.o x hx;omega)).mono ?_;rintro e w3 (⟨E,v,rfl,f,D⟩|⟨E,rfl,D⟩)
    .have J:Hid ((sY bs).2=0):=(by rw[sY,<-l.o];exact E);have z:Hid (tI (sY bs).1=0):=KK J.o;have I:Hid (vQ w3 v (sY bs).1):=(by have:=xT.of_owns f;rw[l.o]at this;exact this);have P:Hid (∀b,v.ownBlock=some b->w.heap.size<=b):=fun b hb=>zr y.size (f.lt b hb).1;clear E f;have B:=Below.step y D;go_wp2_with fail
     refine (L7 _ (sY bs).1 _ I.o z.o).mono ?_;rintro e F ⟨g4,rfl,a1,H,K⟩;have C:=Below.step B K;have u:=Ip F g4 16 _ _ (VS z.o) H;have A:(convert 23 9 (.slice (some (g,af)) 16 cap)).run prog F=.ok (.string (sg bs)) F:=
      ZB F 23 9 5 g af cap 16 bs M.o (by kernel_rfl) (by kernel_rfl) (by kernel_rfl) (fun j x hx=>by
       have hj:j<bs.length:=by
        rcases sa j bs.length with h|h
        .exact h
        .rw[yd (by simpa using h)]at hx;cases hx
       have e:(bs.map (Value.int .u8))[j]?=some (.int .u8 bs[j]):=(by simp[hj]);rw[e]at hx;cases hx;have:=HC.o j hj;exact (C.cell (zG this)).trans this)
     have Q:Hid (vQ F v (sY bs).1):=xT.below I.o K;clear H;by_cases p:sk (ofE (sY bs).1)=bs
     .have G:Hid (mi bs):=⟨M.o,J.o,p⟩;rw[p]at u;clear p;generalize sg bs=S at u A;go_wp2;go_ret2;exact zt ⟨G.o,_,rfl,Q.o,C,P.o⟩
     .have G:Hid (¬mi bs):=fun h=>p h.2.2;have r:sg (sk (ofE (sY bs).1))≠sg bs:=fun h=>p (JH (L8 z.o) HX.o h);clear p;generalize sg bs=S at u A r;generalize sg (sk (ofE (sY bs).1))=S' at u A r;have ae:(S'.toList==S.toList)=false:=(by rw[xf];exact fun h=>r (Jc h));clear r;go_wp2;go_ret2;exact zu ⟨G.o,rfl,C⟩
    .have G:Hid (¬mi bs):=fun h=>E (by rw[l.o];exact h.2.1);generalize (ptsR d []).2=c at E;have av:(c != 0)=true:=(by rw[rF];exact E);have B:=Below.step y D;clear E;go_wp2;go_ret2;exact zu ⟨G.o,rfl,B⟩
  .have l:Hid (d=pG bs):=(by rw[<-HR.o,yP (by rw[M.o];have:=L.o;omega)];simp[Hid,pG]);have hL:d.length<=8:=(by have:=L.o;omega);obtain⟨q2,c2,ho,_⟩:=tR T.o;subst ho;go_wp2_with fail
   refine (Jk _ d _ (xT.of_owns T.o) (by omega) (fun x hx=>by rw[l.o]at hx;have:=Z.o x hx;omega)).mono ?_;rintro e w3 (⟨E,v,rfl,f,D⟩|⟨E,rfl,D⟩)
   .have J:Hid ((sY bs).2=0):=(by rw[sY,<-l.o];exact E);have z:Hid (tI (sY bs).1=0):=KK J.o;have I:Hid (vQ w3 v (sY bs).1):=(by have:=xT.of_owns f;rw[l.o]at this;exact this);have P:Hid (∀b,v.ownBlock=some b->w.heap.size<=b):=fun b hb=>zr y.size (f.lt b hb).1;clear E f;have B:=Below.step y D;go_wp2_with fail
    refine (L7 _ (sY bs).1 _ I.o z.o).mono ?_;rintro e F ⟨g4,rfl,a1,H,K⟩;have C:=Below.step B K;have u:=Ip F g4 16 _ _ (VS z.o) H;have A:(convert 23 9 (.slice (some (g,af)) 16 cap)).run prog F=.ok (.string (sg bs)) F:=
     ZB F 23 9 5 g af cap 16 bs M.o (by kernel_rfl) (by kernel_rfl) (by kernel_rfl) (fun j x hx=>by
      have hj:j<bs.length:=by
       rcases sa j bs.length with h|h
       .exact h
       .rw[yd (by simpa using h)]at hx;cases hx
      have e:(bs.map (Value.int .u8))[j]?=some (.int .u8 bs[j]):=(by simp[hj]);rw[e]at hx;cases hx;have:=HC.o j hj;exact (C.cell (zG this)).trans this)
    have Q:Hid (vQ F v (sY bs).1):=xT.below I.o K;clear H;by_cases p:sk (ofE (sY bs).1)=bs
    .have G:Hid (mi bs):=⟨M.o,J.o,p⟩;rw[p]at u;clear p;generalize sg bs=S at u A;go_wp2;go_ret2;exact zt ⟨G.o,_,rfl,Q.o,C,P.o⟩
    .have G:Hid (¬mi bs):=fun h=>p h.2.2;have r:sg (sk (ofE (sY bs).1))≠sg bs:=fun h=>p (JH (L8 z.o) HX.o h);clear p;generalize sg bs=S at u A r;generalize sg (sk (ofE (sY bs).1))=S' at u A r;have ae:(S'.toList==S.toList)=false:=(by rw[xf];exact fun h=>r (Jc h));clear r;go_wp2;go_ret2;exact zu ⟨G.o,rfl,C⟩
   .have G:Hid (¬mi bs):=fun h=>E (by rw[l.o];exact h.2.1);generalize (ptsR d []).2=c at E;have av:(c != 0)=true:=(by rw[rF];exact E);have B:=Below.step y D;clear E;go_wp2;go_ret2;exact zu ⟨G.o,rfl,B⟩
theorem OJ (v:Value) (i:List Int) (w:World) (h:vC w v i) (k:i.length<=1000000) (l:∀x,x∈i->0<=x/\x<=255):
 Calls prog 140 #[v] w (iW i w):=by
 by_cases c:i.length=16
 .obtain⟨_,⟨f,_⟩|⟨g,a,b,rfl,e⟩⟩:=h
  .omega
  .rw[c];exact Me i g a b w (fun j d=>e j _ (sJ i j d)) c l
 .exact MY v i w h c k
def delT (f:Fo) (k:Nat):Fo:=⟨fun a=>if a=k then fun _=>0 else f.nd a,fun a=>if a=k then emp else f.hs a⟩
theorem SC (f:Fo) (k:Nat) (m:k<4):((encF f).toList.take (k*48)++(encT tA 0).toList++(encF f).toList.drop (k*48+(encT tA 0).size)).toArray=encF (delT f k):=by
 apply yV;intro i;rw[oV];by_cases l:i<192
 .obtain⟨a,j,e,c,rfl⟩:∃a j,a<4/\j<48/\i=a*48+j:=⟨i / 48,i%48,by omega,by omega,by omega⟩;rw[sS _ a j e c,xB];have b:((encF f).toList.take (k*48)).length=k*48:=by rw[zi,yp,uh];omega
  have d:(encT tA 0).toList.length=48:=by rw[yp,oV]
  by_cases h:a<k
  .rw[zU,zO (by omega),zI,ze (by omega),zP,sS f a j e c];unfold uO delT;simp only[zb (by omega:¬a=k)]
  .by_cases g:a=k
   .subst g;rw[zU,zx (by omega),zO (by omega),b,show a*48+j-a*48=j by omega,zP,fq tA 0 j c];unfold uO delT tA;simp only[vl]
   .rw[zx (by rw[zl];omega),zl,b,d,yo,show k*48+48+(a*48+j-(k*48+48))=a*48+j by omega,zP,sS f a j e c];unfold uO delT;simp only[zb g]
 .rw[ya (by simp[uh,oV];omega),ya (by rw[uh];omega)]
theorem NP (f:Fo) (k:Nat) (J:1<=k) (F:k<4) (A X E:Array Value) (G:Hid (A=encF f)) (H:Hid (X=encF (delT f k))) (D:Hid (E=encT tA 0)) (I:Hid (vN f k=true)) (w:World):
 Calls prog 119 #[.agg A,k] w fun e w'=>e=.returned (.tuple #[.agg X,()])/\Below w w w':=by
 have x:(k:Int)<4:=by omega
 have B:(0:Int)<=(k:Int):=by omega
 have y:decide ((k:Int)<1)=false:=zK (by omega);have i:Hid (A.size=192):=by rw[G.o];exact uh f
 have a:Hid (X.size=192):=by rw[H.o];exact uh _
 have v:Hid (X.all (·.oneCell')=true):=by rw[H.o];exact nw _
 have g:Hid (E.size=48):=by rw[D.o];exact oV _ _
 have u:Hid (E.all (·.oneCell')=true):=by rw[D.o];exact Vw _ _
 have r:Hid (∀w,(zeroValue 93).run prog w=.ok (.agg E) w):=by rw[D.o];exact treeZ
 obtain⟨c,j⟩:=zA (encF tA);have C:Hid (∀w,(zeroValue 95).run prog w=.ok (.agg c) w):=by rw[j.o];exact forZ
 have p:Hid (c.size=192):=by rw[j.o];exact uh _
 have n:Hid ((A.toList.take (k*48)++E.toList++A.toList.drop (k*48+E.size)).toArray=X):=by rw[G.o,D.o,H.o];exact SC f k F
 have q:Hid (∀(W:World),Calls prog 100 #[.agg A,k] W fun e w'=>e=.returned (.bool true)/\Below W W w'):=fun W=>by rw[G.o,<-I.o];exact jy f k W F
 go_enter func119,ntmps119
 go_wp2_with (first
  | (refine om rfl 95 rfl c C.o ?_)
  | (refine Ug (by kernel_rfl) 95 (.tmp 2) rfl w rfl 95 A (0,0) _ (vG w _ _) forT rfl (by rw[i.o];exact forI) ?_))
 refine (q.o _).mono ?_;rintro e d ⟨rfl,b⟩;have l:Hid (d.heap[w.heap.size]?=some (.cells A 95)):=we b (vG w _ _);have s:Hid (d.heap[w.heap.size+1]?=some (.cells c 95)):=we b (vg w _ _);have m:Below w w d:=Below.step ((zB.alloc zL _).alloc (by simp) _) b;clear b;have t:Hid ((d.setRow w X).heap[w.heap.size]?=some (.cells X 95)):=yi _ _ _ _ _ _ l.o;have h:Hid ((d.setRow w X).heap[w.heap.size+1]?=some (.cells c 95)):=jF s.o _ _ (by omega);have z:=r.o;go_wp2_with (first
  | (refine jr rfl 93 (.tmp 17) (.tmp 16) rfl w (k*48) E rfl rfl 95 A X l.o (by rw[g.o];exact qR) (by rw[g.o,i.o];omega) u.o n.o ?_)
  | (refine yQ rfl 95 (.tmp 2) rfl w rfl 95 X (0,0) _ t.o forT rfl (by rw[a.o];exact forI) ?_)
  | (refine yD rfl 95 (.tmp 4) (.tmp 18) rfl (w.heap.size+1) X rfl rfl 95 c h.o (by rw[a.o];exact forI) (by rw[p.o,a.o]) v.o ?_))
 refine yS (Zx rfl _ _ (w.heap.size+1) 95 X (0,0) _ (.int .i64 0) rfl rfl (yi _ _ _ _ _ _ h.o) forT rfl (by rw[a.o];exact forI)) rfl ⟨rfl,?_⟩;exact Below.setRow (Below.setRow m zL _) (by omega) _
theorem P5 (f:Fo) (k:Nat) (a:1<=k) (b:k<4) (c:vN f k=true) (w:World):
 Calls prog 119 #[.agg (encF f),k] w fun e w'=>e=.returned (.tuple #[.agg (encF (delT f k)),()])/\Below w w w':=
 NP f k a b _ _ _ rfl rfl rfl c w
section
variable {P : Program}
theorem Vc {ops:Array Oper} {Q:Act->Prop} {rest:List Oper} {o:Oper} {a:Act} {C:World->Prop} (hw:Region.wanted o (yielded ops a.tmps)=true) (ty:TypeId) (x:Operand) (ho:o.op=.load ty x)
 (g off:Nat) (hx:a.eval x=.pointer (some (g,off))) (t:TypeId) (cs A:Array Value) (fr:Nat×Nat) (d:TypeDesc) (hg:∀w,C w->w.heap[g]?=some (.cells cs t fr)) (hA:∀j,j<A.size->cs[off+j]?=A[j]?)
 (hu:P.underlying ty=some d) (hd:(match d with|.struct _|.array _ _=>true|_=>false)=true) (hi:(P.info? ty).map (·.size)=some A.size)
 (h:wpQuiet P ops C Q rest (a.put o.dst (.agg A))):wpQuiet P ops C Q (o::rest) a:=
 tm hw fun _ b=>⟨.agg A,fun w hw=>by unfold Oper.quietAt execOp;simp only[ho,hx,Instr.loadAt,Instr.sureAddr,xI,uE,yX,K5 w g off t ty cs A fr d (hg w hw) hA hu hd hi];exact⟨rfl,rfl⟩,b _ h⟩
theorem MX {ops:Array Oper} {rest:List Oper} {Q:Exit->Act->World->Prop} (c:Region.wanted o (yielded ops a.tmps)=true) (v:Value)
 (d:∀w,(execOp a.eval o).run P w=.ok (.value v) w) (h:wpList P ops Q rest (a.put o.dst v) w):wpList P ops Q (o::rest) a w:=
 KI c fun _ b=>by unfold Oper.wp;rw[d];exact b _ _ h
theorem Ml (c d:TypeId) (x y:Operand) (e:o.op=.binOp .neq c x y d) (X Y:Array Value) (f:a.eval x=.agg X) (g:a.eval y=.agg Y) (b:Bool)
 (h:∀w,(Op.equalIn 10000 c (.agg X) (.agg Y)).run P w=.ok b w) (i:P.eqGuardType P.depth c=false) (w:World):(execOp a.eval o).run P w=.ok (.value (.bool (!b))) w:=by
 unfold execOp;simp[e,f,g,xI,run_eqGuard_agg (P:=P) w _ c x y X Y i,run_neq_struct,h]
end
theorem QG (f:Fo) (n:Nat):ry f 4 n=((vN f 0&&f.hs 0 n)||(vN f 1&&f.hs 1 n)||(vN f 2&&f.hs 2 n)||(vN f 3&&f.hs 3 n)):=by simp only[ry];cases vN f 0<;>cases vN f 1<;>cases vN f 2<;>cases vN f 3<;>simp[join,emp]
theorem lU (f:Fo) (n:Nat):uT f 4 n=((vN f 1&&f.hs 1 n)||(vN f 2&&f.hs 2 n)||(vN f 3&&f.hs 3 n)):=by simp only[uT];cases vN f 1<;>cases vN f 2<;>cases vN f 3<;>simp[join,emp]
theorem IH (s t:Nat->Bool):mF (enc s) (enc t) 0 32:=fun j a=>⟨.u8,_,_,by rw[yL];exact pQ s j a,by rw[yL];exact pQ t j a⟩
theorem M8 (s:Nat->Bool) (w:World):(Op.equalIn 10000 91 (.agg (enc s)) (.agg (enc s))).run prog w=.ok true w:=by rw[IP (len:=32) (n:=1) setT byteI (KP byteT) _ _ w (IH s s),(M6 (tF s) (tF s) (IH s s)).2 rfl]
def foB (bs:List Int):Fo:=⟨fun k j=>bs.getD (k*16+j) 0,fun k m=>(bs.getD (64+k*32+m / 8) 0).toNat.testBit (m%8)⟩
def upF (bs:List Int) (k i:Nat):Fo:=⟨fun a j=>if a<k\/(a=k/\j<i) then (foB bs).nd a j else 0,fun a=>if a<k then (foB bs).hs a else emp⟩
def U8s (bs:List Int):Prop:=∀x,x∈bs->0<=x/\x<=255
theorem Yx (h:U8s bs) (i:Nat):0<=bs.getD i 0/\bs.getD i 0<=255:=by
 rw[zh];cases a:bs[i]? with
 | none=>simp
 | some x=>exact h x (xK a)
theorem JM (h:U8s bs) (k i:Nat):(tD ((foB bs).hs k) i:Int)=bs.getD (64+k*32+i) 0:=by
 obtain⟨d,g⟩:=Yx h (64+k*32+i);obtain⟨x,a⟩:=wd d;have e:tD ((foB bs).hs k) i=tB (fun b=>x.testBit b):=W5 fun b j=>by
  have c:(8*i+b) / 8=i:=by omega
  have f:(8*i+b)%8=b:=by omega
  unfold foB;simp only[c,f];rw[a,yy]
 rw[e,N6 _ (by omega),a]
theorem Xn {f g:Fo} (o:∀k j,k<4->j<16->f.nd k j=g.nd k j) (p:∀k m,k<4->m<256->f.hs k m=g.hs k m):encF f=encF g:=by
 apply yV;intro i;by_cases n:i<192
 .obtain⟨a,j,c,d,rfl⟩:∃a j,a<4/\j<48/\i=a*48+j:=⟨i / 48,i%48,by omega,by omega,by omega⟩;rw[sS _ a j c d,sS _ a j c d];unfold uO;by_cases h:j<16
  .rw[ze h,ze h,o a j c h]
  .rw[zb h,zb h];have e:tD (f.hs a) (j-16)=tD (g.hs a) (j-16):=W5 fun b l=>p a _ c (by omega);rw[e]
 .rw[ya (by rw[uh];omega),ya (by rw[uh];omega)]
theorem upF_0 (a:List Int):encF (upF a 0 0)=encF tA:=Xn (fun k j _ _=>by simp[upF,tA]) (fun k m _ _=>by simp[upF,tA])
theorem upF_4 (b:List Int):encF (upF b 4 0)=encF (foB b):=Xn (fun k j a _=>by simp[upF,a]) (fun k m a _=>by simp[upF,a])
theorem TP (m:List Int) (k i:Nat) (p:k<4) (o:i<16):(encF (upF m k i)).setIfInBounds (k*48+i) (.int .i64 (m.getD (k*16+i) 0))=encF (upF m k (i+1)):=by
 apply yV;intro n;rw[yO];by_cases l:n<192
 .obtain⟨a,j,d,c,rfl⟩:∃a j,a<4/\j<48/\n=a*48+j:=⟨n / 48,n%48,by omega,by omega,by omega⟩;rw[sS _ a j d c,sS _ a j d c];by_cases g:k*48+i=a*48+j
  .have h:a=k:=(by omega);have f:j=i:=(by omega);subst h f;rw[ze rfl,ze (by rw[uh];omega)];unfold uO upF;simp only[ze o];rw[ze (zu ⟨trivial,by omega⟩)];rfl
  .rw[zb g];unfold uO upF;by_cases b:j<16
   .simp only[ze b];by_cases e:a<k\/a=k/\j<i
    .rw[ze e,ze (by omega)]
    .rw[zb e,zb (by omega)]
   .simp only[zb b]
 .rw[zb (by omega),ya (by rw[uh];omega),ya (by rw[uh];omega)]
theorem Uk (o:List Int) (p:U8s o) (q:o.length=192) (k:Nat) (r:k<4):((encF (upF o k 16)).toList.take (k*48+16)++u8s ((o.drop (64+32*k)).take 32)++(encF (upF o k 16)).toList.drop (k*48+16+(u8s ((o.drop (64+32*k)).take 32)).length)).toArray=encF (upF o (k+1) 0):=by
 have b:(u8s ((o.drop (64+32*k)).take 32)).length=32:=by rw[vO,zi,yx,q];omega
 apply yV;intro n;rw[b];by_cases m:n<192
 .obtain⟨a,j,f,e,rfl⟩:∃a j,a<4/\j<48/\n=a*48+j:=⟨n / 48,n%48,by omega,by omega,by omega⟩;rw[sS _ a j f e,xB];have d:((encF (upF o k 16)).toList.take (k*48+16)).length=k*48+16:=by rw[zi,yp,uh];omega
  by_cases g:a*48+j<k*48+16
  .rw[zU,zO (by omega),zI,ze g,zP,sS _ a j f e];unfold uO upF;by_cases c:j<16
   .simp only[ze c];rw[ze (by omega),ze (by omega)]
   .simp only[zb c];rw[ze (by omega),ze (by omega)]
  .by_cases l:a*48+j<k*48+48
   .have h:a=k:=(by omega);subst h;rw[zU,zx (by omega),zO (by omega),d,show a*48+j-(a*48+16)=j-16 by omega];unfold u8s;rw[xy,zI,ze (by omega),yo];unfold uO upF;simp only[zb (show ¬j<16 by omega)];rw[ze (by omega),JM p];rw[show 64+32*a+(j-16)=64+a*32+(j-16) by omega,zh];obtain⟨x,i⟩:∃x,o[64+a*32+(j-16)]?=some x:=⟨_,zf (by omega)⟩;rw[i];rfl
   .rw[zx (by rw[zl];omega),zl,d,b,yo,show k*48+16+32+(a*48+j-(k*48+16+32))=a*48+j by omega,zP,sS _ a j f e];unfold uO upF;by_cases c:j<16
    .simp only[ze c];rw[zb (by omega),zb (by omega)]
    .simp only[zb c];rw[zb (by omega),zb (by omega)]
 .rw[ya (by simp[uh,b];omega),ya (by rw[uh];omega)]
theorem SM (f:U8s bs) (g:bs.length=192):uC (foB bs)=bs:=by
 apply xS;intro n;by_cases e:n<192
 .obtain⟨x,c⟩:∃x,bs[n]?=some x:=⟨_,zf (by omega)⟩;have d:bs.getD n 0=x:=by rw[zh,c];rfl
  unfold uC;by_cases h:n<64
  .obtain⟨k,i,a,b,rfl⟩:∃k i,k<4/\i<16/\n=k*16+i:=⟨n / 16,n%16,by omega,by omega,by omega⟩;rw[zO (by rw[ld];exact h),ZT _ k i a b,c,<-d];rfl
  .obtain⟨k,i,a,b,rfl⟩:∃k i,k<4/\i<32/\n=64+k*32+i:=⟨(n-64) / 32,(n-64)%32,by omega,by omega,by omega⟩;rw[zx (by rw[ld];omega),ld,show 64+k*32+i-64=k*32+i by omega,ZS _ k i a b,JM f,d,c]
 .rw[yd (by rw[fj];omega),yd (by omega)]
def unpF (bs:List Int):Fo×Int:=if bs.length=192/\rV (foB bs)=0 then (foB bs,0) else (tA,3)
theorem TR (v:Value) (x:List Int) (w:World) (h:vC w v x) (y:x.length≠192) (z:x.length<=1000000) (t:Array Value) (u:Hid (t=encF tA)):
 Calls prog 99 #[v] w fun e w'=>e=.returned (.tuple #[.agg t,(3:Int)])/\Below w w w':=by
 have _:=z;have f:Hid (∀w,(zeroValue 95).run prog w=.ok (.agg t) w):=by rw[u.o];exact forZ
 have a:Hid (t.size=192):=by rw[u.o];exact uh _
 have c:Hid (t.all (·.oneCell')=true):=by rw[u.o];exact nw _
 obtain⟨N,d⟩:=zA x.length;obtain⟨q,i,l⟩:∃p i,v=.slice p N i:=by
  rw[d.o];obtain⟨_,⟨k,m,n,rfl⟩|⟨g,o,b,rfl,s⟩⟩:=h
  .exact⟨m,n,by rw[k]⟩
  .exact⟨_,b,rfl⟩
 subst l;rw[<-d.o]at z y;have j:((N:Int) != 192)=true:=by rw[rF];omega
 clear h y;have r:=f.o;go_enter func99,ntmps99;go_wp2_with (first
  | (refine om rfl 95 rfl t f.o ?_)
  | (refine yD rfl 95 (.tmp 2) (.tmp 12) rfl w t rfl rfl 95 t (zT w _) (by rw[a.o];exact forI) rfl c.o ?_))
 refine yS (Zx rfl _ _ w 95 t (0,0) _ (.int .i64 3) rfl rfl (yi _ _ _ _ _ _ (zT w _)) forT rfl (by rw[a.o];exact forI)) rfl ⟨rfl,?_⟩;exact Below.setRow (zB.alloc zL _) zL _
theorem N4 {v:Value} (h:vC w v bs) (f:0<bs.length):∃g o c,v=.slice (some ⟨g,o,none⟩) bs.length c/\g<w.heap.size/\∀j,j<bs.length->w.cell? ⟨g,o+j,none⟩=some (.int .u8 (bs.getD j 0)):=by
 obtain⟨_,⟨e,_⟩|⟨g,o,c,rfl,d⟩⟩:=h
 .omega
 .have a:∀j,j<bs.length->w.cell? ⟨g,o+j,none⟩=some (.int .u8 (bs.getD j 0)):=fun j b=>by rw[d j _ (sJ bs j b)];simp[b]
  exact⟨g,o,c,rfl,zG (a 0 f),a⟩
theorem Ul (
 g o cp:Nat) (bs:List Int) (w:World) (an:g<w.heap.size) (HC:Hid (∀j,j<192->w.cell? ⟨g,o+j,none⟩=some (.int .u8 (bs.getD j 0)))) (HL:Hid (bs.length=192)) (HU:Hid (U8s bs))
 (ap:Hid (vC w (.slice (some (g,o)) 192 cp) bs)) (av:192<=cp) (Z0 X:Array Value) (c:Int) (al:Hid (Z0=encF tA)) (HX:Hid (X=encF (unpF bs).1)) (Hc:Hid (c=(unpF bs).2)):
 Calls prog 99 #[.slice (some (g,o)) 192 cp] w fun e w'=>e=.returned (.tuple #[.agg X,c])/\Below w w w':=by
 have HZ:Hid (∀w,(zeroValue 95).run prog w=.ok (.agg Z0) w):=by rw[al.o];exact forZ
 have E:Hid (Z0.size=192):=by rw[al.o];exact uh _
 have aj:Hid (Z0.all (·.oneCell')=true):=by rw[al.o];exact nw _
 go_enter func99,ntmps99
 go_wp2_with (first
  | (refine om rfl 95 rfl Z0 HZ.o ?_))
 go_loopw [13] (fun i wr=>∃k:Nat,k<=4/\i=.int .i64 k/\Hid (wr.heap[w.heap.size]?=some (.cells Z0 95))/\Hid (wr.heap[w.heap.size+1]?=some (.cells (encF (upF bs k 0)) 95))/\Below w w wr) (fun i _=>4-(intOf i).toNat)
 case atStart =>refine⟨0,by omega,rfl,vG w _ _,?_,(zB.alloc zL _).alloc (by simp) _⟩;rw[upF_0,<-al.o];exact vg w _ _
 case round=>
  obtain⟨k,hk,rfl,O,Z,M⟩:=hrel;by_cases A:k<4
  .have aw:(k:Int)<4:=(by omega);have a1:(0:Int)<=(k:Int):=(by omega);obtain⟨wo,af⟩:∃wo:World,wo=wr:=⟨_,rfl⟩;subst af;go_wp2;go_loopw [16] (fun i wr=>∃j:Nat,j<=16/\i=.int .i64 j/\Hid (wr.heap[w.heap.size]?=some (.cells Z0 95))/\Hid (wr.heap[w.heap.size+1]?=some (.cells (encF (upF bs k j)) 95))/\Below w w wr) (fun i _=>16-(intOf i).toNat);case atStart=>exact⟨0,by omega,rfl,O,Z,M⟩
   case round=>
    obtain⟨j,hj,rfl,J,l,t⟩:=hrel;by_cases I:j<16
    .have a3:(j:Int)<16:=(by omega);have ay:(0:Int)<=(j:Int):=(by omega);obtain⟨x,Hx⟩:=zA (bs.getD (k*16+j) 0);have N:=Yx HU.o (k*16+j);rw[<-Hx.o]at N;obtain⟨a0,ac⟩:=N;have cb:wr.cell? (g,o+(16*k+j))=some (.int .u8 x):=(by rw[t.cell (p:=⟨g,o+(16*k+j),none⟩) an,Hx.o,show 16*k+j=k*16+j by omega];exact HC.o _ (by omega));have cf:wr.cell? (w.heap.size+1,k*48+j)=some (.int .i64 0):=(by rw[zC l.o,sS _ k j A (by omega)];unfold uO upF;simp[I]);have ff:wr.frozen? (w.heap.size+1,k*48+j)=false:=zF l.o;have p1:=zW (16*(k:Int));have p2:=zW (16*(k:Int)+(j:Int));have p3:(16*(k:Int)+(j:Int)).toNat=16*k+j:=(by omega);have p4:(0:Int)<=16*(k:Int)+(j:Int):=(by omega);have p5:16*(k:Int)+(j:Int)<192:=(by omega);go_wp2
     go_still_tail 13,(by kernel_rfl)
     go_wp2;go_roundw;case rel=>
      refine⟨j+1,by omega,by go_num,(oo _ _ _ _ (by simp)).trans J.o,?_,?_⟩
      .rw[<-TP bs k j A I,<-Hx.o];exact zX _ _ _ _ _ _ l.o
      .exact t.drew.setCell (by simp) _
     case measure=>simp[intOf];omega
    .obtain rfl:j=16:=(by omega);have p1:=zW (32*(k:Int));have p2:=zW (64+32*(k:Int));have p3:(64+32*(k:Int)).toNat=64+32*k:=(by omega);have p4:(0:Int)<=64+32*(k:Int):=(by omega);have p5:64+32*(k:Int)<=192:=(by omega);have p6:64+32*k≠cp:=(by omega);go_wp2
     go_still_tail 9,(by kernel_rfl)
     go_wp2_with fail
     have b:(u8s ((bs.drop (64+32*k)).take 32)).length=32:=(by rw[vO,zi,yx,HL.o];omega);have z:∀(j:Nat) (v:Value),(u8s ((bs.drop (64+32*k)).take 32))[j]?=some v->wr.drew.cell? ((⟨g,o+(64+32*k),none⟩:Addr).add j)=some v:=fun j v D=>by
      have hj:=(zy.1 D).1;have L:(⟨g,o+(64+32*k),none⟩:Addr).add j=⟨g,o+(64+32*k)+j,none⟩:=(by unfold Addr.add;split<;>simp_all);rw[L,show o+(64+32*k)+j=o+(64+32*k+j) by omega];refine Eq.trans (t.cell (p:=⟨g,o+(64+32*k+j),none⟩) an) ?_;rw[HC.o _ (by omega)];unfold u8s at D;rw[xy,zI,ze (by omega),yo]at D;rw[zh];cases hq:bs[64+32*k+j]? with
      | none=>rw[hq]at D;cases D
      | some x=>rw[hq]at D;simpa using D
     rw[rE (P:=prog) wr.drew 23 23 _ 5 (w.heap.size+1) (k*48+16) 32 32 ⟨g,o+(64+32*k),none⟩ (192-(64+32*k)) (cp-(64+32*k)) (encF (upF bs k 16)) 95 (u8s ((bs.drop (64+32*k)).take 32)) ie (by kernel_rfl) l.o (by rw[b];show 32=min _ _;omega) z (by rw[b,uh];omega) (oR _)];rw[Uk bs HU.o HL.o k A,b];have T:Hid ((wr.drew.setRow (w.heap.size+1) (encF (upF bs (k+1) 0))).heap[w.heap.size]?=some (.cells Z0 95)):=jF (w:=wr.drew) J.o _ _ (by omega);have ad:Hid ((wr.drew.setRow (w.heap.size+1) (encF (upF bs (k+1) 0))).heap[w.heap.size+1]?=some (.cells (encF (upF bs (k+1) 0)) 95)):=yi wr.drew _ _ _ _ _ l.o;have ae:Below w w (wr.drew.setRow (w.heap.size+1) (encF (upF bs (k+1) 0))):=Below.setRow t.drew (by omega) _;clear z b p1 p2 p3 p4 p5 p6;go_wp2;go_roundw;case rel=>exact⟨k+1,by omega,by go_num,T,ad,ae⟩
     case measure=>simp[intOf];omega
  .obtain rfl:k=4:=(by omega);obtain⟨F,d⟩:=zA (encF (foB bs));have m:Hid (wr.heap[w.heap.size+1]?=some (.cells F 95)):=(by rw[d.o,<-upF_4];exact Z.o);have f:Hid (F.size=192):=(by rw[d.o];exact uh _);have U:Hid (F.all (·.oneCell')=true):=(by rw[d.o];exact nw _);clear Z;have hz:=HZ.o;by_cases G:rV (foB bs)=0
   .have B:unpF bs=(foB bs,0):=(by unfold unpF;rw[ze ⟨HL.o,G⟩]);have eX:F=X:=(by rw[HX.o,B,d.o]);have Y:c=0:=(by rw[Hc.o,B]);have C:Hid (∀W:World,Calls prog 90 #[.agg F] W (WL (foB bs) W)):=fun W=>(by rw[d.o];exact Kz _ G W);subst eX Y;clear B G;go_wp2_with (refine yQ rfl 95 (.tmp 4) rfl (w.heap.size+1) rfl 95 F (0,0) _ m.o forT rfl (by rw[f.o];exact forI) ?_)
    refine (C.o _).mono ?_;rintro e H ⟨u,rfl,y,a⟩;have aa:Hid (vC H u bs):=(by have:=xT.of_owns y;rw[SM HU.o HL.o]at this;rw[<-HL.o]at this;exact this);have Q:Hid (H.heap[w.heap.size+1]?=some (.cells F 95)):=we a m.o;have n:Hid (H.heap[w.heap.size]?=some (.cells Z0 95)):=we a O.o;have q:=Below.step M a;have ah:Hid (vC H (.slice (some (g,o)) 192 cp) bs):=xT.below ap.o q;clear y a m O M;go_wp2_with fail
    refine (IV _ _ _ _ _ aa.o ah.o rfl (by rw[HL.o];omega)).mono ?_;have ab:Hid (lF bs bs=true):=(by show _=_;unfold lF;simp);rw[ab.o];rintro e w3 ⟨rfl,s⟩;have ai:Hid (w3.heap[w.heap.size+1]?=some (.cells F 95)):=we s Q.o;have K:Hid (w3.heap[w.heap.size]?=some (.cells Z0 95)):=we s n.o;have V:=Below.step q s;clear s Q n q;go_wp2_with (first
     | (refine yQ rfl 95 (.tmp 4) rfl (w.heap.size+1) rfl 95 F (0,0) _ ai.o forT rfl (by rw[f.o];exact forI) ?_)
     | (refine yD rfl 95 (.tmp 2) (.tmp 58) rfl w F rfl rfl 95 Z0 K.o (by rw[f.o];exact forI) (by rw[f.o,E.o]) U.o ?_))
    refine yS (Zx rfl _ _ w 95 F (0,0) _ (.int .i64 0) rfl rfl (yi _ _ _ _ _ _ K.o) forT rfl (by rw[f.o];exact forI)) rfl ⟨rfl,?_⟩;exact Below.setRow V zL _
   .have B:unpF bs=(tA,3):=(by unfold unpF;rw[zb fun h=>G h.2]);have eX:Z0=X:=(by rw[HX.o,B,al.o]);have Y:c=3:=(by rw[Hc.o,B]);obtain⟨r,S⟩:=zA (rV (foB bs));have ax:(r==0)=false:=(by rw[S.o];simpa using G);have R:(r != 0)=true:=(by rw[S.o];simpa using G);have C:Hid (∀W:World,Calls prog 90 #[.agg F] W fun e w'=>e=.returned (.tuple #[.slice none 0 0,r])/\Below W W w'):=fun W=>Pg _ F r d S R W;subst eX Y;clear B G;go_wp2_with (refine yQ rfl 95 (.tmp 4) rfl (w.heap.size+1) rfl 95 F (0,0) _ m.o forT rfl (by rw[f.o];exact forI) ?_)
    refine (C.o _).mono ?_;rintro e H ⟨rfl,a⟩;have n:Hid (H.heap[w.heap.size]?=some (.cells Z0 95)):=we a O.o;have q:=Below.step M a;clear a m O M;go_wp2_with (first
     | (refine yD rfl 95 (.tmp 2) (.tmp 57) rfl w Z0 rfl rfl 95 Z0 n.o (by rw[E.o];exact forI) rfl aj.o ?_))
    refine yS (Zx rfl _ _ w 95 Z0 (0,0) _ (.int .i64 3) rfl rfl (yi _ _ _ _ _ _ n.o) forT rfl (by rw[E.o];exact forI)) rfl ⟨rfl,?_⟩;exact Below.setRow q zL _
def j4 (v:Value) (n:Nat):Prop:=∀p l c,v=.slice p l c->n<=c
theorem TS (v:Value) (j:List Int) (w:World) (h:vC w v j) (k:U8s j) (l:j4 v j.length) (m:j.length<=1000000):
 Calls prog 99 #[v] w fun e w'=>e=.returned (.tuple #[.agg (encF (unpF j).1),.int .i64 (unpF j).2])/\Below w w w':=by
 by_cases b:j.length=192
 .obtain⟨g,o,c,rfl,i,d⟩:=N4 h (by omega);have a:=l _ _ _ rfl;rw[b]at h d a ⊢;exact Ul g o c j w i d b k h a _ _ _ rfl rfl rfl
 .have f:unpF j=(tA,3):=by unfold unpF;rw[zb fun h=>b h.1]
  rw[f];exact TR v j w h b m _ rfl
