import Derived.Test.YtakfhadmokoikaaGreatDoorKA42
set_option maxHeartbeats 0
set_option linter.all false
set_option maxRecDepth 100000
namespace Go.Proofs.YtakfhadmokoikaaGreatDoor
open Go.Proofs.Tryz Go.RowKit
variable {F:Nat->Prop} {a:Addr} {k:Nat} {st:Dk} {w:World}
theorem u8sTu: prog.underlying 23=some (.slice 5):=by kernel_rfl
theorem byteTu: prog.underlying 5=some (.int .u8):=by kernel_rfl
theorem Sn: prog.underlying 9=some .string:=by kernel_rfl
theorem Oq (l:List Int) (h:0<l.length) {v:Value} (e:vC w v l):(convert 23 9 v).run prog w=.ok (.string (sg l)) w:=by
 obtain⟨b,⟨d,_⟩|⟨g,o,c,rfl,a⟩⟩:=e
 .omega
 .exact ZB w _ _ _ g o c l.length l rfl u8sTu byteTu Sn a
def nmK (i:Nat):ByteArray:=⟨#[UInt8.ofNat (97+i)]⟩
def nmOf (x:Int):ByteArray:=nmK (pk x 8).toNat
theorem nmK_8: ((List.range 8).all fun i=>(sg [97+(i:Int)]).data==(nmK i).data)=true:=by kernel_rfl
theorem nmK_ok: ((List.range 8).all fun i=>ru (nmK i))=true:=by kernel_rfl
theorem Yi (x:Int):∃i:Nat,i<8/\pk x 8=(i:Int)/\nmOf x=nmK i:=by have h:=ro x 8 (by omega) (by omega);exact⟨(pk x 8).toNat,by omega,by omega,rfl⟩
theorem lM (x:Int):ru (nmOf x)=true:=by obtain⟨i,a,_,h⟩:=Yi x;rw[h];exact yU.1 nmK_ok i (yT.2 a)
theorem U0 (x:Int) (w:World):Calls prog 61 #[x] w (fun e w'=>e=.returned (.string (nmOf x))/\Below w w w'):=by
 obtain⟨i,k,a,f⟩:=Yi x;rw[f];have b:=og x 8 w (by omega) (by omega);rw[a]at b;have l:=Lib.hid b;have n:=zW (97+(i:Int));have p:IntKind.u8.wrap (97+(i:Int))=97+(i:Int):=by simp[IntKind.wrap,IntKind.bits,IntKind.signed];omega
 have c:vC (w.alloc (.cells #[.int .u8 (97+(i:Int))] 5)) (.slice (some ⟨w.heap.size,0,none⟩) 1 1) [97+(i:Int)]:=qZ rfl (zH) rfl;have g:=Oq [97+(i:Int)] (by show 0<1;omega) c;have d:sg [97+(i:Int)]=nmK i:=by
  have j:(sg [97+(i:Int)]).data=(nmK i).data:=by simpa using yU.1 nmK_8 i (yT.2 k)
  exact ByteArray.ext j
 rw[d]at g;have h:Hid (Below w w (w.alloc (.cells #[.int .u8 (97+(i:Int))] 5))):=zB.alloc zL _;clear b c d a f;go_enter func61,ntmps61;go_wp2_with fail
 refine l.o.mono ?_;rintro e m ⟨rfl,rfl⟩;go_wp2;go_ret;exact⟨rfl,h.o⟩
def uf (n:Nat):Fo:=⟨fun t i=>if t=0/\i<n then ((37+i:Nat):Int) else 0,fun t p=>decide (t=0)&&decide (37<=p)&&decide (p<37+n)⟩
def pY (n:Nat):Fo:=⟨(uf (n+1)).nd,(uf n).hs⟩
theorem ZL {f g:Fo} (a:∀t i,f.nd t i=g.nd t i) (b:∀t p,f.hs t p=g.hs t p):f=g:=by
 cases f;cases g
 congr 1
 .funext t i;exact a t i
 .funext t p;exact b t p
theorem Nn: uf 0=tA:=by
 refine ZL (fun t i=>?_) (fun t p=>?_)
 .show (if t=0/\i<0 then _ else (0:Int))=_;rw[zb (by omega)];rfl
 .show (decide (t=0)&&decide (37<=p)&&decide (p<37+0))=_;have:(decide (37<=p)&&decide (p<37+0))=false:=by
   by_cases h:37<=p
   .simp[h]<;>omega
   .simp[h]
  rw[Bool.and_assoc,this,Bool.and_false];rfl
theorem SZ (n t j:Nat) (h:¬(t=0/\j=n)):(uf n).nd t j=(pY n).nd t j:=by
 unfold uf pY;dsimp only[uf];by_cases a:t=0/\j<n
 .rw[ze a,ze ⟨a.1,by omega⟩]
 .rw[zb a,zb (by omega)]
theorem Ps (n:Nat):(pY n).hs=(uf n).hs:=rfl
theorem NY (n:Nat) (f:n<16):(encF (uf n)).setIfInBounds n (.int .i64 ((37+n:Nat):Int))=encF (pY n):=by
 apply yV;intro i;rw[yO,uh];by_cases d:n=i
 .subst d;rw[ze rfl,ze (by omega)];have a:=sS (pY n) 0 n (by omega) (by omega);rw[um,yL]at a;rw[a];unfold uO;rw[ze f];show _=some (Value.int .i64 (if 0=0/\n<n+1 then _ else _));rw[ze ⟨rfl,by omega⟩]
 .rw[zb d];by_cases e:i<192
  .have a:=sS (uf n) (i / 48) (i%48) (by omega) (by omega);have c:=sS (pY n) (i / 48) (i%48) (by omega) (by omega);rw[show i / 48*48+i%48=i by omega]at a c;rw[a,c];unfold uO;by_cases b:i%48<16
   .rw[ze b,ze b];rw[SZ n (i / 48) (i%48) (by omega)]
   .rw[zb b,zb b,Ps]
  .rw[ya (by rw[uh];omega),ya (by rw[uh];omega)]
def hasG (f:Fo) (s:Nat->Bool):Fo:=⟨f.nd,fun k=>if k=0 then s else f.hs k⟩
theorem MK (f:Fo) (s:Nat->Bool):((encF f).toList.take 16++(enc s).toList++(encF f).toList.drop (16+(enc s).size)).toArray=encF (hasG f s):=by
 apply yV;intro i;have d:(enc s).toList.length=32:=by simpa using tF s
 have b:(encF f).toList.length=192:=by simpa using uh f
 have g:∀j,(encF f).toList[j]?=(encF f)[j]? :=fun j=>zP;rw[xB,tF];have a:∀f:Fo,i<192->(encF f)[i]?=some (uO f (i / 48) (i%48)):=fun f l=>by
  have:=sS f (i / 48) (i%48) (by omega) (by omega)
  rwa [show i / 48*48+i%48=i by omega]at this
 by_cases h:i<16
 .rw[zU,zO (by rw[zi,b];omega),zI,ze h,g,a _ (by omega),a _ (by omega)];unfold uO;rw[ze (by omega),ze (by omega)];rfl
 .by_cases k:i<48
  .rw[zU,zx (by rw[zi,b];omega),zO (by rw[zi,b,d];omega),zi,b,zP,pQ _ _ (by omega),a _ (by omega)];unfold uO;rw[zb (by omega),show i / 48=0 by omega,show min 16 192=16 by omega,show i%48-16=i-16 by omega];rfl
  .rw[zU,zx (by rw[zi,b];omega),zx (by rw[zi,b,d];omega),yo,zi,b,d,g];rw[show 16+32+(i-min 16 192-32)=i by omega];by_cases e:i<192
   .rw[a _ e,a _ e];unfold uO;by_cases c:i%48<16
    .rw[ze c,ze c];rfl
    .rw[zb c,zb c];show _=some (Value.int .u8 (tD (if i / 48=0 then s else f.hs (i / 48)) (i%48-16)));rw[zb (by omega)]
   .rw[ya (by rw[uh];omega),ya (by rw[uh];omega)]
theorem Np (n:Nat):hasG (pY n) (ins ((pY n).hs 0) (37+n))=uf (n+1):=by
 refine ZL (fun t i=>rfl) (fun t p=>?_);show (if t=0 then ins ((uf n).hs 0) (37+n) else (uf n).hs t) p=(uf (n+1)).hs t p;by_cases a:t=0
 .subst a;rw[ze rfl];unfold ins uf;dsimp only;by_cases b:p=37+n
  .subst b;simp
  .have:decide (p<37+n)=decide (p<37+(n+1)):=by
    by_cases h:p<37+n
    .rw[yf h,yf (by omega)]
    .rw[zK h,zK (by omega)]
   simp[b,this]
 .rw[zb a];unfold uf;simp[a]
def rm : List Int:=List.replicate 64 0
def zE (st:Dk):Nat->Dk
 | 0=>st
 | j+1=>tV (zE st j) j rm
def fE (st:Dk) (b:List Int):Nat->Dk
 | 0=>st
 | j+1=>tV (fE st b j) (1+j) (sec b j)
def qq : List Int:=rM 2 493 0 0 0 1 1 []++List.replicate 32 0
def fmtE (st:Dk) (k:Nat):Dk:=pN (tV (tV (fE (zE st k) (uC (uf 16)) 3) 37 qq) 0 (sV k))
theorem zE_W (st:Dk):∀j,(zE st j).W.length<=st.W.length+j
 | 0=>zL
 | j+1=>by have a:=Vl (zE st j) j rm;have b:=zE_W st j;show (tV (zE st j) j rm).W.length<=_;omega
theorem fE_W (st:Dk) (b:List Int):∀j,(fE st b j).W.length<=st.W.length+j
 | 0=>zL
 | j+1=>by have a:=Vl (fE st b j) (1+j) (sec b j);have c:=fE_W st b j;show (tV (fE st b j) (1+j) (sec b j)).W.length<=_;omega
theorem Mu: rV (uf 16)=0:=by kernel_rfl
theorem OW: vL 2 493 0 0 0 1 1 []=0:=by kernel_rfl
theorem Wz: (rM 2 493 0 0 0 1 1 []).length=32:=by kernel_rfl
theorem ft: qq.length=64:=by unfold qq;rw[zl,Wz,zR]
theorem j9 (n:Nat):(Builtin.zeroCells #[.int .u8 0] n).toList=List.replicate n (Value.int .u8 0):=by
 apply tu
 .simp[Builtin.zeroCells]
 .intro i a b;simp[Builtin.zeroCells,qJ]
theorem Kb {g n:Nat} {cur:Array Value} {t:TypeId} {D:List Int} (b:w.heap[g]?=some (.cells cur t)) (d:¬F g) (e:cur.toList.take n=u8s D) (f:D.length=n) (o m c:Nat) (h:o+m<=n):∀w',yK F w w'->vC w' (g,o,m,c) ((D.drop o).take m):=fun _w' a=>
 ZF (_base:=0) (_c:=0) f ((a.block g (xL b) d).trans b) e o m c h
theorem P3 (h:uL w (.pointer (some a)) st k F) (hk:64<=k) (ad:k<=256) (hW:st.W.length<=1000):
 Calls prog 44 #[.pointer (some a)] w (fun e w'=>e=.returned ()/\Did (.pointer (some a)) (fmtE st k) k F w w'):=by
 have H:=Lib.hid h;have HF:=Lib.hid h.fin;have bO:=Lib.hid (mC h);have d1:decide ((k:Int)<64)=false:=zK (by omega);have d2:¬((k:Int)<64):=by omega
 have d3:¬(k<64):=by omega
 obtain⟨Z,HZ⟩:=zA (List.replicate 64 (0:Int));have a0:Hid (Z.length=64):=by show _=_;rw[HZ.o];simp
 have cw:∀W:World,(Instr.makeSlice 23 (.int .i64 64) (.int .i64 64)).run prog W=.ok (.slice (some ⟨W.heap.size,0,none⟩) 64 64) (W.alloc (.cells (u8s Z).toArray 5)):=fun W=>by rw[HZ.o];exact jl 64 64 rfl (by omega) W
 have ba:Hid (Below w w (w.alloc (.cells (u8s Z).toArray 5))):=zB.alloc zL _;have a2:Hid ((w.alloc (.cells (u8s Z).toArray 5)).heap[w.heap.size]?=some (.cells (u8s Z).toArray 5 (0,0))):=zH;have aS:=Lib.hid (h.below ba.o);have aW:=Lib.hid (mC aS.o);clear h;go_enter func44,ntmps44;go_wp2_with fail
 refine bO.o.mono ?_;rintro e w' ⟨rfl,rfl⟩;go_wp2_with fail
 refine aW.o.mono ?_;rintro e w1 ⟨rfl,rfl⟩;obtain⟨gz,a3⟩:=zD w.heap.size;rw[a3.o]at a2 ⊢;have bp:Hid (gz<(w.alloc (.cells (u8s Z).toArray 5)).heap.size):=xL a2.o;generalize w.alloc (.cells (u8s Z).toArray 5)=w1 at *
 go_wp2;go_loopw [18] (fun J wr=>∃j:Nat,j<=k/\J=.int .i64 j/\Hid (Did (.pointer (some a)) (zE st j) k F w1 wr)) (fun J _=>k-(intOf J).toNat);case atStart=>exact⟨0,by omega,rfl,⟨F,aS.o,fun _ r=>zt r,yK.refl _ _⟩⟩
 case round=>
  obtain⟨j,hj,rfl,bT⟩:=hrel;obtain⟨t,l,s,m⟩:=bT.o;have a9:¬t gz:=fun hc=>by
   rcases s gz hc with h|h
   .have:=HF.o gz h;have:=a3.o;omega
   .have:=bp.o;omega
  have K:¬F gz:=fun hc=>by have:=HF.o gz hc;have:=a3.o;omega
  have aB:=(m.block gz bp.o K).trans a2.o;by_cases b8:j<k
  .have bh:(j:Int)<(k:Int):=(by omega);have A:=Kb (n:=64) aB a9 (by rw[xV,zv (by rw[vO,a0.o];exact zL)]) a0.o 0 64 64 (by omega);rw[wz,zv (by rw[a0.o];exact zL),HZ.o]at A;have G:=Lib.hid (jx l j b8 (.slice (some ⟨gz,0,none⟩) 64 64) rm (by simp[rm]) A (by have:=zE_W st j;omega));have HY:Hid (yK F w1 wr/\∀i,t i->F i\/w1.heap.size<=i):=⟨m,s⟩;clear l s m a9 K aB A;go_wp2_with fail
   refine G.o.mono ?_;rintro e w2 ⟨rfl,S⟩;have bz:Hid (Did (.pointer (some a)) (zE st (j+1)) k F w1 w2):=Did.trans HY.o.1 HY.o.2 S;clear S;go_wp2;go_roundw;case rel=>exact⟨j+1,by omega,by go_num,bz⟩
   case measure=>simp[intOf];omega
  .obtain rfl:j=k:=(by omega);have bh:¬(j:Int)<(j:Int):=(by omega);obtain⟨b,bV⟩:∃x,x=wr:=⟨wr,rfl⟩;subst bV;have HY:Hid (uL b (.pointer (some a)) (zE st j) j t/\(∀i,t i->F i\/w1.heap.size<=i)/\yK F w1 b):=⟨l,s,m⟩;obtain⟨Z0,br⟩:=zA (encF tA);have bQ:Hid (∀w,(zeroValue 95).run prog w=.ok (.agg Z0) w):=(by rw[br.o];exact forZ);have bE:Hid (Below b b (b.alloc (.cells Z0 95))):=zB.alloc zL _;have a1:Hid ((b.alloc (.cells Z0 95)).heap[b.heap.size]?=some (.cells (encF (uf 0)) 95)):=(by show _=_;rw[Nn,<-br.o];exact zH);clear l s m a9 K aB;go_wp2_with (refine om rfl 95 rfl Z0 bQ.o ?_)
   obtain⟨d,I⟩:=zD b.heap.size;rw[I.o]at a1 ⊢;generalize b.alloc (.cells Z0 95)=w2 at *
   have bZ:Hid ((∀i,t i->i<d)/\d<w2.heap.size):=⟨fun i r=>by rw[<-I.o];exact HY.o.1.fin i r,xL a1.o⟩;go_wp2;go_loopw [26] (fun J wq=>∃n:Nat,n<=16/\J=.int .i64 n/\Hid (wq.heap[d]?=some (.cells (encF (uf n)) 95))/\Hid (Below d b wq)) (fun J _=>16-(intOf J).toNat);case atStart=>exact⟨0,by omega,rfl,a1.o,by show Below _ _ _;rw[<-I.o];exact bE.o⟩
   case round=>
    obtain⟨n,hn,rfl,ay,aY⟩:=hrel;have ci:d<=wr.heap.size:=(by have:=xL ay.o;omega);by_cases aI:n<16
    .have bM:(n:Int)<16:=(by omega);obtain⟨R,HR⟩:=zD (encF (uf n));have ab:Hid (R.size=192):=(by show _=_;rw[<-HR.o];exact uh _);have E:=ay.o;rw[HR.o]at E;have cn:wr.cell? (d,n)=some (R[n]' (by rw[ab.o];omega)):=(zC E).trans (xt _);have zn:wr.frozen? (d,n)=false:=zF E;obtain⟨cv,bi⟩:∃c,(R[n]' (by rw[ab.o];omega))=c:=⟨_,rfl⟩;rw[bi]at cn;clear bi;obtain⟨R1,u⟩:=zD (encF (pY n));have b2:Hid (R.setIfInBounds n (.int .i64 (37+(n:Int)))=R1):=by
      show _=_;rw[<-HR.o,<-u.o,<-NY n aI]
      congr 2
     have X:Hid ((wr.setCell (d,n) (.int .i64 (37+(n:Int)))).heap[d]?=some (.cells R1 95)):=(by show _=_;rw[<-b2.o];exact zX _ _ n _ _ _ E);have be:Hid (R1.size=192):=(by show _=_;rw[<-u.o];exact uh _);obtain⟨S0,az⟩:=zA (enc ((pY n).hs 0));have aP:Hid (S0.size=32):=(by rw[az.o];exact tF _);have b3:Hid (∀j,j<S0.size->R1[16+j]?=S0[j]?):=(by rw[<-u.o,az.o];have h2:∀j,j<(enc ((pY n).hs 0)).size->(encF (pY n))[16+j]?=(enc ((pY n).hs 0))[j]? :=(by have:=WB (pY n) 0 (by omega);simpa using this);exact h2);obtain⟨S1,y⟩:=zA (enc (ins ((pY n).hs 0) (37+n)));have ao:Hid (S1.size=32):=(by rw[y.o];exact tF _);have bf:Hid (S1.all (·.oneCell')=true):=(by rw[y.o];exact lO _);have bJ:Hid (∀W:World,Calls prog 89 #[.agg S0,.int .i64 (37+(n:Int))] W fun e w'=>e=.returned (.agg S1)/\Below W W w'):=fun W=>(by have:=iz ((pY n).hs 0) (37+(n:Int)) W (by omega) (by omega);rw[show (37+(n:Int)).toNat=37+n by omega]at this;rw[az.o,y.o];exact this);obtain⟨R2,ak⟩:=zD (encF (uf (n+1)));have bI:Hid ((R1.toList.take 16++S1.toList++R1.toList.drop (16+S1.size)).toArray=R2):=(by show _=_;rw[<-u.o,y.o,<-ak.o,<-Np];exact MK _ _);have bH:Hid (Below d b (wr.setCell (d,n) (.int .i64 (37+(n:Int))))):=aY.o.setCell (p:=⟨d,n,none⟩) zL _;clear E
     go_upto_region 14 with fail
     generalize wr.setCell (d,n) (.int .i64 (37+(n:Int)))=w3 at *
     go_wp2_with (refine pR (by kernel_rfl) 91 (.tmp 36) rfl d 16 rfl 95 R1 S0 (0,0) _ X.o b3.o setT rfl (by rw[aP.o];exact setI) ?_)
     refine (bJ.o w3).mono ?_;rintro e w4 ⟨rfl,aE⟩;have an:=Lib.hid (we aE X.o);have bl:d<=w3.heap.size:=(by have:=xL X.o;omega);have bP:Hid (Below d b w4):=bH.o.trans (aE.mono bl);clear aE;have cb:∀(Q:Exit->Act->World->Prop),True:=fun _=>trivial;go_wp2_with (refine jr rfl 91 (.tmp 42) (.tmp 40) rfl d 16 S1 rfl rfl 95 R1 R2 an.o (by rw[ao.o];exact setI) (by rw[ao.o,be.o];omega) bf.o bI.o ?_)
     have bj:Hid ((w4.setRow d R2).heap[d]?=some (.cells (encF (uf (n+1))) 95)):=(by show _=_;rw[ak.o];exact yi _ _ _ _ _ _ an.o);have af:Hid (Below d b (w4.setRow d R2)):=Below.setRow bP.o zL _;go_wp2;go_roundw;case rel=>exact⟨n+1,by omega,by go_num,bj,af⟩
     case measure=>simp[intOf];omega
    .obtain rfl:n=16:=(by omega);obtain⟨R,HR⟩:=zD (encF (uf 16));have ab:Hid (R.size=192):=(by show _=_;rw[<-HR.o];exact uh _);have bY:Hid (wr.heap[d]?=some (.cells R 95)):=(by rw[<-HR.o];exact ay.o);have bC:Hid (Calls prog 90 #[.agg R] wr (WL (uf 16) wr)):=(by rw[<-HR.o];exact Kz _ Mu wr);have bb:Hid (Below b b wr):=(by show Below _ _ _;rw[I.o];exact aY.o);go_wp2_with (refine yQ rfl 95 (.tmp 5) rfl d rfl 95 R (0,0) _ bY.o forT rfl (by rw[ab.o];exact forI) ?_)
     refine bC.o.mono ?_;rintro e w5 ⟨v5,rfl,aK,bm⟩;obtain⟨_,⟨_,h0⟩|⟨gP,cP,av,rfl,bX,bs,aN,_,_,aV⟩⟩:=id aK
     .omega
     have af:Hid (Below b b w5):=Below.step bb.o bm;have U:Hid (w5.heap[gP]?=some (.cells av 5)/\av.toList.take 192=u8s (uC (uf 16))/\192<=cP/\b.heap.size<=gP):=⟨bs,by simpa using aV,aN,zr bb.o.size (by omega)⟩;clear aK bm bX bs aN aV;have bG:=Lib.hid (VT 2 493 0 0 0 1 1 (.slice none 0 0) [] w5 ⟨rfl,zt ⟨rfl,_,_,rfl⟩⟩ OW);go_wp2_with fail
     refine bG.o.mono ?_;rintro e w6 ⟨D,rfl,bc,aT,a5⟩;have aM:Hid (Below b b w6):=Below.step af.o a5;have N:Hid (w6.heap[D]?=some (.cells (byts (rM 2 493 0 0 0 1 1 [])) 5)/\b.heap.size<=D):=⟨aT,zr af.o.size bc⟩;have M:=Lib.hid (we a5 U.o.1);have b4:=Lib.hid (HY.o.1.below aM.o);clear bc aT a5;go_wp2;go_loopw [60] (fun J wq=>∃n:Nat,n<=3/\J=.int .i64 n/\Hid (Did (.pointer (some a)) (fE (zE st j) (uC (uf 16)) n) j t w6 wq)) (fun J _=>3-(intOf J).toNat);case atStart=>exact⟨0,by omega,rfl,⟨t,b4.o,fun _ r=>zt r,yK.refl _ _⟩⟩
     case round=>
      obtain⟨n,hn,rfl,b6⟩:=hrel;obtain⟨F2,l,s,m⟩:=b6.o;have aa:Hid ((∀i,F2 i->t i\/w6.heap.size<=i)/\yK t w6 wr):=⟨s,m⟩;have V:∀g,b.heap.size<=g->¬t g:=fun g hg hc=>(by have:=bZ.o.1 g hc;have:=I.o;omega);have ag:∀g,b.heap.size<=g->g<w6.heap.size->¬F2 g:=fun g hg c1 hc=>(s g hc).elim (V g hg) (fun h=>by omega);have a6:=(m.block gP (xL M.o) (V gP U.o.2.2.2)).trans M.o;by_cases bB:n<3
      .have cj:(n:Int)<3:=(by omega);have A:=Kb (n:=192) a6 (ag gP U.o.2.2.2 (xL M.o)) U.o.2.1 (fj _) (64*n) 64 (cP-64*n) (by omega);have a4:=fE_W (zE st j) (uC (uf 16)) n;have aA:=zE_W st j;have G:=Lib.hid (jx l (1+n) (by omega) (.slice (some (gP,64*n)) 64 (cP-64*n)) (sec (uC (uf 16)) n) (by rw[mD (k:=3) (fj _) bB]) A (by omega));have i1:=zW (64*(n:Int));have i2:=zW ((n:Int)+1);have i3:=zW (64*((n:Int)+1));have i4:=zW (1+(n:Int));have i5:((1+n:Nat):Int)=1+(n:Int):=(by omega);have b0:192<=cP:=U.o.2.2.1;rw[i5]at G;clear l s m V ag a6 A;go_wp2_with fail
       rw[show 64*(n+1)-64*n=64 by omega];refine G.o.mono ?_;rintro e w7 ⟨rfl,bk⟩;have bK:Hid (Did (.pointer (some a)) (fE (zE st j) (uC (uf 16)) (n+1)) j t w6 w7):=Did.trans aa.o.2 aa.o.1 bk;clear bk G;go_wp2;go_roundw;case rel=>exact⟨n+1,by omega,by go_num,bK⟩
       case measure=>simp[intOf];omega
      .obtain rfl:n=3:=(by omega);obtain⟨f,b9⟩:∃x,x=wr:=⟨wr,rfl⟩;subst b9;have a7:=(m.block D (xL N.o.1) (V D N.o.2)).trans N.o.1;have cq:=Lib.hid l;have ch:=Lib.hid a7;have bo:=ag D N.o.2 (xL N.o.1);obtain⟨i0,u1,u2,u3,u4⟩:=xp jt;have aj:prog.underlying 3=some (.int .i64):=(by kernel_rfl);have aX:=fun ty=>Lib.run_append_grow_zeros (P:=prog) f 23 3 ty 5 i0 _ .i64 .i64 u8sT aj u1 u2 (some ⟨D,0,none⟩) 32 32 (u8s (rM 2 493 0 0 0 1 1 [])) (by rw[u3];exact pm f.drew 1 32 ⟨D,0,none⟩ 32 32 _ (by rw[vO,Wz]) (fun q v hv=>by have aZ:(⟨D,0,none⟩:Addr).add q=⟨D,q,none⟩:=(by unfold Addr.add;split<;>simp_all);rw[aZ];show f.drew.cell? _=_;rw[show f.drew.cell? ⟨D,q,none⟩=f.cell? ⟨D,q,none⟩ from rfl,zC a7,<-hv];simp[byts,u8s])) 32 (by omega) (by rw[u3];omega) (by omega) (by omega) (by rw[u4];omega) (by rw[u4];exact growslice_fits_wide (by omega) (by omega));obtain⟨cp,bg⟩:=zD (grownCap f (32+32) 32 5);have aw:64<=cp:=(by rw[<-bg.o];exact sD _ _ _ _);obtain⟨C,HC⟩:=zD ((u8s (rM 2 493 0 0 0 1 1 [])).toArray++Builtin.zeroCells (Value.int .u8 0).cells 32++Builtin.zeroCells (Value.int .u8 0).cells (grownCap f (32+32) 32 5-(32+32)));have bW:Hid (C.toList.take 64=u8s qq):=by
        show _=_;rw[<-HC.o];simp only[po,xV];rw[show (Value.int .u8 0).cells=#[Value.int .u8 0] from rfl,j9,j9];have e1:(u8s (rM 2 493 0 0 0 1 1 [])++List.replicate 32 (Value.int .u8 0)).length=64:=(by rw[zl,vO,Wz,zR]);rw[yR (by rw[e1];omega),zv (by rw[e1];omega)];unfold qq;rw[qh]
        congr 1
       have al:∀ty,(Builtin.append_ #[23,3] ty #[.slice (some ⟨D,0,none⟩) 32 32,(32:Int)]).run prog f=.ok (.slice (some ⟨f.heap.size,0,none⟩) 64 cp) (f.drew.alloc (.cells C 5)):=fun ty=>(by have:=aX ty;rw[HC.o,bg.o]at this;exact this);have bS:=Lib.hid al;clear al;have ae:Hid (Below f f (f.drew.alloc (.cells C 5))):=(zB.drew).alloc zL _;have b7:Hid ((f.drew.alloc (.cells C 5)).heap[f.heap.size]?=some (.cells C 5)):=zT f.drew _;have a4:=fE_W (zE st j) (uC (uf 16)) 3;have aA:=zE_W st j;have b1:Hid (st.W.length<=1000/\j<=256/\(zE st j).W.length<=st.W.length+j/\(fE (zE st j) (uC (uf 16)) 3).W.length<=(zE st j).W.length+3):=⟨hW,ad,aA,a4⟩;have O:=Kb (F:=F2) (n:=64) b7.o (fun hc=>by have:=l.fin _ hc;omega) bW.o ft 0 64 cp (by omega);rw[wz,zv (by rw[ft];exact zL)]at O;have aq:=Lib.hid (jx (l.below ae.o) 37 (by omega) (.slice (some ⟨f.heap.size,0,none⟩) 64 cp) qq ft O (by omega));have cy:Hid (yK t w6 (f.drew.alloc (.cells C 5))):=aa.o.2.step (yK.of_below ae.o);clear u1 u2 u3 u4 aX aj O a7 a6 l s m V ag bo a4 aA aw;go_wp2_with (at_builtin;refine Lib.wpList_append_run _ rfl _ _ _ _ rfl _ _ rfl rfl _ _ (bS.o _) ?_)
       refine aq.o.mono ?_;rintro e Y ⟨rfl,F3,l,s,m⟩;have aQ:Hid ((∀i,F3 i->F2 i\/f.heap.size<=i)/\yK F2 f Y):=⟨fun i r=>(s i r).imp id fun h=>zr ae.o.size h,(yK.of_below ae.o).trans m fun i r=>zt r⟩;have am:=Lib.hid l;have aD:=Lib.hid (mC l);have ax:=Lib.hid (gI j (by omega) Y);clear l s m aq;go_wp2_with fail
       refine aD.o.mono ?_;rintro e cx ⟨rfl,rfl⟩;go_wp2_with fail
       refine ax.o.mono ?_;rintro e c3 ⟨bR,rfl,z⟩;have ar:=Lib.hid z.below;have L:=z.keep am.o.fin;have T:=Lib.hid (jx (am.o.below z.below) 0 (by omega) bR (sV j) (fy j) L (by have h1:=b1.o;have h2:=Vl (fE (zE st j) (uC (uf 16)) 3) 37 qq;omega));clear z L;go_wp2_with fail
       refine T.o.mono ?_;rintro e bN ⟨rfl,F4,l,s,m⟩;have bn:Hid ((∀i,F4 i->F3 i\/Y.heap.size<=i)/\yK F3 Y bN):=⟨fun i r=>(s i r).imp id fun h=>zr ar.o.size h,(yK.of_below ar.o).trans m fun i r=>zt r⟩;have bD:=Lib.hid (LM l);clear l s m T;go_wp2_with fail
       refine bD.o.mono ?_;rintro e B ⟨rfl,ap⟩;have hd:Did (.pointer (some a)) (fmtE st j) j F3 Y B:=Did.trans bn.o.2 bn.o.1 ap;have S:Did (.pointer (some a)) (fmtE st j) j F2 f B:=Did.trans aQ.o.2 aQ.o.1 hd;have aJ:Did (.pointer (some a)) (fmtE st j) j t w6 B:=Did.trans aa.o.2 aa.o.1 S;have bd:Did (.pointer (some a)) (fmtE st j) j t b B:=Did.trans (yK.of_below aM.o) (fun i r=>zt r) aJ;have aL:Did (.pointer (some a)) (fmtE st j) j F w1 B:=Did.trans HY.o.2.2 HY.o.2.1 bd;have aU:Hid (Did (.pointer (some a)) (fmtE st j) j F w B):=Did.trans (yK.of_below ba.o) (fun i r=>zt r) aL;clear ap hd S aJ bd aL;go_wp2;go_ret;exact⟨rfl,aU.o⟩
def LogK (a:Addr) (st:Dk) (k:Nat) (sq:Int) (F:Nat->Prop) (gl:Nat) (w w':World):Prop:=
 ∃F',uL w' (.pointer (some a)) st k F'/\(∀i,F' i->F i\/w.heap.size<=i)/\¬F' gl/\yK F w w'/\w'.heap[gl]?=some (.cells (logR a sq) 159)/\w.heap.size<=gl
theorem Y3 {kd:Nat} (l:64<=kd) (m:kd<=256) (h:uL w (.pointer (some a)) st kd F) (n:ue st.N) (o:∀x∈qU st.N,mY kd x) (p:st.W.length<900000):
 Calls prog 51 #[.pointer (some a),(5:Int),(32:Int)] w fun e w'=>∃gl,e=.returned (.tuple #[(gl,()),()])/\LogK a (li st) kd (seqO st.N) F gl w w':=
 (UT l m h n o p).mono fun e w' ⟨gl,d,i,c,f,k,g,j,b⟩=>⟨gl,d,c,f,k,g,j,b,i⟩
theorem OA: ∃Z PL:Array _,Z.size=198/\PL[0]?=some (0,1)/\PL[1]?=some (1,1)/\PL[2]?=some (2,192)/\PL[3]?=some (194,1)/\PL[4]?=some (195,1)/\PL[5]?=some (196,1)/\PL[6]?=some (197,1) /\
 ∀parts,prog.built 101 parts=Instr.fill (PL[·]?) Z parts:=
 ⟨((prog.info? 101).bind (·.zero)).get!.cells,#[(0,1),(1,1),(2,192),(194,1),(195,1),(196,1),(197,1)],by kernel_rfl,rfl,rfl,rfl,rfl,rfl,rfl,rfl,fun _=>by kernel_rfl⟩
theorem Qk (p l:Addr) (fo:Fo) (q3 q4:Option Addr) (n3 n4 c3 c4 gd gh:Nat):prog.built 101 [(0,.pointer (some p)),(1,.pointer (some l)),(2,.agg (encF fo)),(3,.slice q3 n3 c3),(4,.slice q4 n4 c4),(5,.map (some gd)),(6,.map (some gh))] =
 some (fsR (.pointer (some p)) (.pointer (some l)) fo (q3,n3,c3) (q4,n4,c4) (.map (some gd)) (.map (some gh))):=by
 obtain⟨Z,a,R,E,z,m,e,g,f,o,s⟩:=OA;have b:(encF fo).size=192:=uh fo;have t:∀i,2<=i->i<194->(encF fo)[i-2]?=some (uO fo ((i-2) / 48) ((i-2)%48)):=fun i M W=>by
  have:=sS fo ((i-2) / 48) ((i-2)%48) (by omega) (by omega)
  rwa [show (i-2) / 48*48+(i-2)%48=i-2 by omega]at this
 generalize encF fo=A at b t ⊢;obtain⟨N,Q,B,F⟩:=nx (n:=198) (place:=(a[·]?)) (k:=0) (cells:=Z) (rest:=[(1,.pointer (some l)),(2,.agg A),(3,.slice q3 n3 c3),(4,.slice q4 n4 c4),(5,.map (some gd)),(6,.map (some gh))]) (.pointer (some p)) 0 #[.pointer (some p)] rfl E R (by simp);obtain⟨O,L,u,w⟩:=nx (n:=198) (place:=(a[·]?)) (k:=1) (cells:=N) (rest:=[(2,.agg A),(3,.slice q3 n3 c3),(4,.slice q4 n4 c4),(5,.map (some gd)),(6,.map (some gh))]) (.pointer (some l)) 1 #[.pointer (some l)] rfl z Q (by simp);obtain⟨d,T,I,G⟩:=nx (n:=198) (place:=(a[·]?)) (k:=2) (cells:=O) (rest:=[(3,.slice q3 n3 c3),(4,.slice q4 n4 c4),(5,.map (some gd)),(6,.map (some gh))]) (.agg A) 2 A rfl (by rw[b];exact m) L (by rw[b];omega);obtain⟨c,K,y,H⟩:=nx (n:=198) (place:=(a[·]?)) (k:=3) (cells:=d) (rest:=[(4,.slice q4 n4 c4),(5,.map (some gd)),(6,.map (some gh))]) (q3,n3,c3) 194 #[(q3,n3,c3)] rfl e T (by simp);obtain⟨P,V,D,h⟩:=nx (n:=198) (place:=(a[·]?)) (k:=4) (cells:=c) (rest:=[(5,.map (some gd)),(6,.map (some gh))]) (q4,n4,c4) 195 #[(q4,n4,c4)] rfl g K (by simp);obtain⟨U,J,j,v⟩:=nx (n:=198) (place:=(a[·]?)) (k:=5) (cells:=P) (rest:=[(6,.map (some gh))]) (.map (some gd)) 196 #[.map (some gd)] rfl f V (by simp);obtain⟨Y,X,x,q⟩:=nx (n:=198) (place:=(a[·]?)) (k:=6) (cells:=U) (rest:=[]) (.map (some gh)) 197 #[.map (some gh)] rfl o J (by simp);rw[s];rw[F];rw[w];rw[G];rw[H];rw[h];rw[v];rw[q];rw[Instr.fill];refine congrArg some ?_;clear F w G H h v q s E z m e g f o;apply yV;intro i;by_cases S:i<198
 .rw[lN _ _ _ _ _ _ _ _ S];simp only[us,yz,xP,b]at B u I y D j x;rw[x,j,D,y,I,u,B];unfold lJ;by_cases M:194<=i
  .have:i=194\/i=195\/i=196\/i=197:=(by omega);rcases this with rfl|rfl|rfl|rfl<;>simp
  .rw[zb (by omega),zb (by omega),zb (by omega),zb (by omega)];by_cases r:i=0
   .subst r;simp
   .by_cases C:i=1
    .subst C;simp
    .rw[ze (by omega),zb r,zb C,ze (by omega),t i (by omega) (by omega)]
 .rw[ya (by omega),ya (by rw[jp];omega)]
theorem XS {E:List Nd} (h:∀x∈E,x.k=0\/x.l≠0):∀n,qs E [] n=[]
 | 0=>rfl
 | n+1=>by
  unfold qs;rw[XS h n];cases b:E[n]? with
  | none=>rfl
  | some x=>
   have:=h x (xK b);have c:mU x [] ((n:Int)+1)=false:=by
    unfold mU;rcases this with a|a
    .simp[a]
    .have:(x.l==0)=false:=(by simpa using a);simp[this]
   simp[c]
theorem Y5 (h:uL w (.pointer (some a)) st k F) (hk:64<=k) (aB:k<=256) (ai:Dk) (sq:Int)
 (an:∀W:World,Below w w W->Calls prog 51 #[.pointer (some a),(5:Int),(32:Int)] W fun e w'=>∃gl,e=.returned (.tuple #[(gl,()),()])/\LogK a ai k sq F gl W w')
 (hm:sec st.N 0=sV k) (a5:∀n,n<k->∀x∈sec ai.N n,0<=x/\x<=255) (f:Fo) (a9:ji (sec ai.N) f k) (htr:jh (sec ai.N) (f.nd 0) k) (hq:ll (sec ai.N 4)) (ax:∀X∈sQ (sec ai.N) (f.nd 0) 32,X.k=0\/X.l≠0):
 Calls prog 16 #[.pointer (some a)] w
  (fun e w'=>∃gf F',e=.returned (.tuple #[(gf,()),()])/\FsAt w' gf ⟨ai,k,sq,f,sc (sec ai.N 4),sQ (sec ai.N) (f.nd 0) 32,[],[]⟩ F' a/\yK F w w'/\(∀i,F' i->F i\/w.heap.size<=i)):=by
 have H:=Lib.hid h;have a0:=gT h 0 (by omega);rw[hm]at a0;have bp:=Lib.hid a0;have aU:=Lib.hid (fun (W:World) (hW:Below w w W)=>mC (h.below hW));have bn:=Lib.hid an;have ak:=Lib.hid a5;have b0:=Lib.hid a9;have b4:=Lib.hid htr;have HQ:=Lib.hid hq;obtain⟨RL,ao⟩:=zD (sc (sec ai.N 4));have aD:Hid (RL.length<=20):=by show _<=_;rw[<-ao.o];exact (Zj HQ.o.2.2.1).1
 rw[ao.o];have aI:=Lib.hid ax;have d1:decide ((k:Int)<64)=false:=zK (by omega);have d2:¬((k:Int)<64):=by omega
 have d3:¬(k<64):=by omega
 clear h a0 an a5 a9 htr hq ax hm;go_enter func16,ntmps16;go_wp2_with fail
 refine bp.o.mono ?_;rintro e w1 ⟨v1,rfl,am⟩;have ay:=Lib.hid am.below;have bA:=Lib.hid am.at;clear am;go_wp2_with fail
 refine (aU.o w1 ay.o).mono ?_;rintro e w2 ⟨rfl,rfl⟩;go_wp2_with fail
 refine (aU.o w1 ay.o).mono ?_;rintro e w2 ⟨rfl,rfl⟩;go_wp2_with fail
 refine (gI k (by omega) w1).mono ?_;rintro e w2 ⟨v2,rfl,O⟩;have bv:=Lib.hid (Below.step ay.o O.below);have ap:=Lib.hid (Va v1 v2 (sV k) (sV k) w2 (xT.below bA.o O.below) O.at rfl (by rw[fy];omega));rw[show eqB (sV k) (sV k)=true by unfold eqB;simp]at ap;clear O;go_wp2_with fail
 refine ap.o.mono ?_;rintro e w3 ⟨rfl,aL⟩;have av:=Lib.hid (Below.step bv.o aL);clear aL ap;go_wp2_with fail
 refine (bn.o w3 av.o).mono ?_;rintro e m ⟨gl,rfl,F1,y1,y2,y3,y4,y5,y6⟩;have HY:Hid ((∀i,F1 i->F i\/w3.heap.size<=i)/\¬F1 gl/\yK F w3 m/\m.heap[gl]?=some (.cells (logR a sq) 159)/\w3.heap.size<=gl):=⟨y2,y3,y4,y5,y6⟩;have M:=Lib.hid y1;have bI:=Lib.hid (ZP y1 ak.o);have g:=Y6 (ZP y1 ak.o) (by omega) f b0.o;obtain⟨A,HA⟩:=zD (encF f);rw[HA.o]at g;have aV:Hid (Calls prog 52 #[.iface 27 (.pointer (some a))] m (fun e w'=>e=.returned (.tuple #[.agg A,()])/\Below m m w')):=g;have a1:Hid (A.size=192):=by rw[<-HA.o];exact uh _
 have bk:Hid (A.all (·.oneCell')=true):=by rw[<-HA.o];exact nw _
 clear y1 y2 y3 y4 y5 y6 g;go_wp2_with fail
 refine aV.o.mono ?_;rintro e t ⟨rfl,aZ⟩;have bC:=Lib.hid aZ;clear aZ;obtain⟨Z0,bc⟩:=zA (encF tA);have b7:Hid (∀w,(zeroValue 95).run prog w=.ok (.agg Z0) w):=by rw[bc.o];exact forZ
 have bF:Hid (Z0.size=192):=by rw[bc.o];exact uh _
 have az:Hid (((t.alloc (.cells Z0 95)).setRow t A).heap[t.heap.size]?=some (.cells A 95)):=yi _ _ _ _ _ _ (zH);have aF:Hid (Below t t ((t.alloc (.cells Z0 95)).setRow t A)):=Below.setRow (zB.alloc zL _) zL _
 go_upto_region 10 with (first
  | (refine om rfl 95 rfl Z0 b7.o ?_)
  | (refine yD rfl 95 (.tmp 7) (.tmp 48) rfl t A rfl rfl 95 Z0 (zH) (by rw[a1.o];exact forI) (by rw[bF.o,a1.o]) bk.o ?_))
 obtain⟨gF,bm⟩:=zD t.heap.size;have q:Hid (Below m m ((t.alloc (.cells Z0 95)).setRow t A)):=Below.step bC.o aF.o;clear aF;rw[bm.o]at az q ⊢;generalize (t.alloc (.cells Z0 95)).setRow gF A=w6 at *
 obtain⟨TT,HT⟩:=zA (encT f 0);have bB:Hid (TT.size=48):=by rw[HT.o];exact oV _ _
 have bz:Hid (∀j,j<TT.size->A[0+j]?=TT[j]?):=by
  rw[HT.o,<-HA.o];have h2:∀j,j<(encT f 0).size->(encF f)[0+j]?=(encT f 0)[j]? :=by have:=VE f 0 (by omega);simpa using this
  exact h2
 have htr:=YI (bI.o.below q.o) f 0 b4.o;rw[<-HT.o]at htr;have aa:Hid (Calls prog 53 #[.iface 27 (.pointer (some a)),.agg TT] w6 (fun e w'=>∃v,e=.returned (.tuple #[v,()])/\kL w6 v (sQ (sec ai.N) (f.nd 0) 32) w')):=htr;clear htr;go_wp2_with (refine pR (by kernel_rfl) 93 (.tmp 56) rfl gF 0 rfl 95 A TT (0,0) _ az.o bz.o vF rfl (by rw[bB.o];exact qR) ?_)
 refine aa.o.mono ?_;rintro e z ⟨v7,rfl,E,C,U,a2⟩;obtain⟨L,HL⟩:=zD (sQ (sec ai.N) (f.nd 0) 32);rw[HL.o]at aI C U;have T:Hid (L.length=32):=by show _=_;rw[<-HL.o];exact L0 _ _ _
 have ad:E.length=32:=by rw[U.1,T.o]
 have ar:=Lib.hid C;have au:=Lib.hid U;have aS:Hid (Below m m z):=Below.step q.o a2;have br:=Lib.hid (we a2 az.o);obtain⟨qn,cn,rfl,be⟩:=tR C;obtain⟨V,rfl,bl,_⟩:=be (by rw[T.o];omega);have aY:Hid (w6.heap.size<=V/\V<z.heap.size):=⟨by omega,(C.lt V rfl).2⟩;rw[T.o]at ar ⊢;clear a2 C U be bl;have aj:=Lib.hid (gT (M.o.below aS.o) 4 (by omega));have bo:Hid ((sec ai.N 4).length=64):=mD M.o.lens.2 (by omega);have bG:=Lib.hid (ak.o 4 (by omega));go_wp2_with fail
 refine aj.o.mono ?_;rintro e w8 ⟨v8,rfl,Q⟩;have aP:=Lib.hid (Below.step aS.o Q.below);have aX:=Lib.hid Q.below;have a6:=Lib.hid (JS v8 (sec ai.N 4) w8 Q.at bG.o (by rw[bo.o];omega));clear Q;go_wp2_with fail
 refine a6.o.mono ?_;rintro e c (⟨_,u,rfl,hu,aq⟩|⟨bj,_⟩);case inr=>exact yb HQ.o bj
 have bq:=Lib.hid (Below.step aP.o aq);have I:Hid (Below z z c):=Below.step aX.o aq;rw[ao.o]at hu;obtain⟨qr,cr,rfl,_⟩:=tR hu;obtain⟨nr,al⟩:=zD RL.length;rw[al.o]at hu;rw[al.o];have bd:=Lib.hid hu;have bx:=Lib.hid (we I.o br.o);clear aq hu a6 aj aa;have aA:∀W:World,(Instr.makeMap 98 none).run prog W=.ok (.map (some W.heap.size)) (W.alloc (.map #[] 0)):=fun _=>rfl;have aN:∀W:World,(Instr.makeMap 99 none).run prog W=.ok (.map (some W.heap.size)) (W.alloc (.map #[] 0)):=fun _=>rfl;obtain⟨bt,cd⟩:=zD c.heap.size;obtain⟨R,HR⟩:=zD (fsR (.pointer (some a)) (gl,()) f (qr,nr,cr) (.slice (some ⟨V,0,none⟩) 32 cn) (.map (some c.heap.size)) (.map (some (c.heap.size+1))));have b2:Hid (prog.built 101 [(0,.pointer (some a)),(1,.pointer (some ⟨gl,0,none⟩)),(2,.agg A),(3,.slice qr nr cr),(4,.slice (some ⟨V,0,none⟩) 32 cn),(5,.map (some c.heap.size)),(6,.map (some (c.heap.size+1)))]=some R):=by show _=_;rw[<-HA.o,<-HR.o];exact Qk a ⟨gl,0,none⟩ f qr (some ⟨V,0,none⟩) nr 32 cr cn _ _
 go_wp2_with (first
  | (refine yQ rfl 95 (.tmp 7) rfl gF rfl 95 A (0,0) _ bx.o forT rfl (by rw[a1.o];exact forI) ?_)
  | (refine uX rfl fun K hK=>JR 101 _ rfl #[(0,.pointer (some a)),(1,.pointer (some ⟨gl,0,none⟩)),(2,.agg A),(3,.slice qr nr cr),(4,.slice (some ⟨V,0,none⟩) 32 cn),(5,.map (some c.heap.size)),(6,.map (some (c.heap.size+1)))] (by simp only[uG,yI,un,Act.eval];rfl) R b2.o (hK _ _ ?_))
  | (refine uX rfl fun K hK=>Xx 101 (.tmp 83) rfl R rfl (hK _ _ ?_)))
 have ag:Hid (Below c c (((c.alloc (.map #[] 0)).alloc (.map #[] 0)).alloc (.cells R 101))):=((zB.alloc zL _).alloc (by simp) _).alloc (by simp;omega) _;have aw:(c.alloc (.map #[] 0)).heap.size=c.heap.size+1:=by simp
 have J:((c.alloc (.map #[] 0)).alloc (.map #[] 0)).heap.size=c.heap.size+1+1:=by simp
 have aC:Hid ((((c.alloc (.map #[] 0)).alloc (.map #[] 0)).alloc (.cells R 101)).heap[c.heap.size+1+1]?=some (.cells R 101)):=by rw[<-J];exact zH
 have a3:Hid (MapL prog 3 (((c.alloc (.map #[] 0)).alloc (.map #[] 0)).alloc (.cells R 101)) c.heap.size []):=(MapL.made c).of_block ((ui _ _ (by rw[J];omega)).trans (ui _ _ (by rw[aw];omega)));have aJ:Hid (MapL prog 3 (((c.alloc (.map #[] 0)).alloc (.map #[] 0)).alloc (.cells R 101)) (c.heap.size+1) []):=by have:=MapL.made (P:=prog) (K:=3) (c.alloc (.map #[] 0));rw[aw]at this;exact this.of_block (ui _ _ (by rw[J];omega))
 have a4:Hid ((((c.alloc (.map #[] 0)).alloc (.map #[] 0)).alloc (.cells R 101)).heap.size=c.heap.size+1+1+1):=by show _=_;simp
 clear aw J aA aN;generalize ((c.alloc (.map #[] 0)).alloc (.map #[] 0)).alloc (.cells R 101)=S at *
 have af:Hid (Below z z S):=Below.step I.o ag.o;have aE:=Lib.hid (th ar.o af.o);have p:∀x∈E,x.k=0\/x.l≠0:=fun x hx=>by
  obtain⟨i,d,rfl⟩:=uA.1 hx;have a7:i<L.length:=by rw[<-au.o.1];exact d
  obtain⟨f0,f1,f2,f3,f4,f5,_⟩:=au.o.2 i d a7;rw[f0,f5];exact aI.o _ (zz a7)
 have g:=S6 (.slice (some ⟨V,0,none⟩) 32 cn) (.slice none 0 0) E [] S (by rw[ad];exact xT.of_owns aE.o) ⟨rfl,zt ⟨rfl,_,_,rfl⟩⟩ (by omega) (by simp);rw[XS p]at g;have aM:=Lib.hid g;clear g p;go_wp2_with fail
 refine aM.o.mono ?_;rintro e b1 ⟨r,rfl,Z,Y⟩;obtain⟨qx,cx,rfl,_⟩:=tR Z;have aW:=Lib.hid Y;clear Z Y aM;rw[show (([]:List Int).length)=0 from rfl];go_wp2;go_loopw [88] (fun iv wq=>iv=.int .i64 0/\wq=b1) (fun _ _=>0);case atStart=>exact⟨rfl,rfl⟩
 case round=>
  obtain⟨rfl,bw⟩:=hrel;subst bw;go_wp2;go_ret2;have s:Below S S wr:=aW.o;have ae:Below c c wr:=Below.step ag.o s;have ab:Below z z wr:=Below.step af.o s;have B:Below m m wr:=Below.step bq.o ae;have b3:m.heap.size<=w6.heap.size:=q.o.size;have bV:w6.heap.size<=z.heap.size:=by have:=aY.o;omega
  have cc:z.heap.size<=c.heap.size:=I.o.size;have bM:c.heap.size+1+1+1<=wr.heap.size:=by rw[<-a4.o];exact s.size
  have aK:gl<m.heap.size:=xL HY.o.2.2.2.1;have hD:=M.o.below B;have D:∀i,F1 i->i<m.heap.size:=M.o.fin;have a8:∀i,(F1 i\/i=gl\/i=c.heap.size+1+1\/i=c.heap.size\/i=c.heap.size+1)->i<w6.heap.size\/z.heap.size<=i:=fun i d=>by
   rcases d with d|rfl|rfl|rfl|rfl
   .exact zt (zm (D i d) b3)
   .exact zt (by omega)
   .exact zu (by omega)
   .exact zu (by omega)
   .exact zu (by omega)
  have b5:∀i,(F1 i\/i=gl\/i=c.heap.size+1+1\/i=c.heap.size\/i=c.heap.size+1)->i<wr.heap.size:=fun i d=>by
   rcases d with d|rfl|rfl|rfl|rfl
   .have:=D i d;omega
   .omega
   .omega
   .omega
   .omega
  have aQ:w.heap.size<=w3.heap.size:=av.o.size;have ah:=we s aC.o;rw[<-HR.o]at ah;refine⟨c.heap.size+1+1,fun i=>F1 i\/i=gl\/i=c.heap.size+1+1\/i=c.heap.size\/i=c.heap.size+1,rfl,⟨⟨gl,_,_,c.heap.size,c.heap.size+1,E,[],F1,ah,hD,fun i d=>zt d,HY.o.2.1,we B HY.o.2.2.2.1,zu (zt rfl),?_,?_,?_,a3.o.of_block (s.block _ a3.o.lt),⟨te.nil _ _,fun y hy=>yb hy yE⟩,zu (zu (zu (zt rfl))),by omega,fun hc=>by have:=D _ hc;omega,aJ.o.of_block (s.block _ aJ.o.lt),zu (zu (zu (zu rfl))),fun hc=>by have:=D _ hc;omega⟩,zu (zu (zt rfl)),by rw[HL.o];exact T.o,b5,⟨ye _,fun y hy=>yb hy yE⟩,hk,aB,aD.o⟩,?_,fun i d=>?_⟩
  .have h8:m.heap.size<=w8.heap.size:=aP.o.size;have h1:=gE (G:=fun i=>i<w8.heap.size) bd.o (fun b hb hc=>by have:=(bd.o.lt b hb).1;omega);have h2:=fZ (F':=fun i=>F1 i\/i=gl\/i=c.heap.size+1+1\/i=c.heap.size\/i=c.heap.size+1) h1 (yK.of_below ae) fun i d=>by
    rcases d with d|rfl|rfl|rfl|rfl
    .exact zt (zm (D i d) h8)
    .exact zt (zm aK h8)
    .exact zu (by omega)
    .exact zu (by omega)
    .exact zu (by omega)
   refine h2.mono fun W hh=>?_;show xT W (qr,nr,cr) 2 RL.length (wT RL);rw[al.o];exact xT.of_owns hh
  .have h1:=gE (G:=fun i=>i<w6.heap.size) ar.o (fun b hb=>by injection hb with hb;rw[<-hb];have:=aY.o.1;show ¬(V<_);omega);have h2:=fZ h1 (yK.of_below ab) a8;rw[ad];exact h2.mono fun _ hh=>xT.of_owns hh
  .rw[HL.o];exact iH au.o (yK.of_below ab) fun i d=>(a8 i d).imp (fun h=>zt h) id
  .exact ((yK.of_below av.o).step HY.o.2.2.1).step (yK.of_below B)
  .rcases d with d|rfl|rfl|rfl|rfl
   .exact (HY.o.1 i d).imp id fun h=>zr aQ h
   .exact zu (zr aQ HY.o.2.2.2.2)
   all_goals exact zu (by have:=HY.o.2.2.1.size;omega)
theorem Zy (h:st.fu = -1) (n:Nat) (D:List Int):(tV st n D).fu = -1/\(tV st n D).N=putS st.N n D:=by unfold tV;rw[zb (by rw[h];decide)];refine⟨?_,rfl⟩;show decF st.fu = -1;rw[h];rfl
theorem zE_at (k:Nat):∀j,j<=k->(zE (tJ k) j).fu = -1/\(zE (tJ k) j).N.length=64*k/\∀n,n<k->sec (zE (tJ k) j).N n=rm
 | 0,_=>⟨rfl,by show (List.replicate _ _).length=_;simp,fun n b=>by
  show sec (List.replicate (64*k) 0) n=rm;unfold sec rm;rw[List.drop_replicate,List.take_replicate]
  congr 1
  omega⟩
 | j+1,h=>by
  obtain⟨f,c,g⟩:=zE_at k j (by omega);obtain⟨e,d⟩:=Zy f j rm;refine⟨e,?_,fun n b=>?_⟩
  .show (tV (zE (tJ k) j) j rm).N.length=_;rw[d];exact jn c (by omega) (by simp[rm])
  .show sec (tV (zE (tJ k) j) j rm).N n=_;rw[d];by_cases a:n=j
   .subst a;exact W6 c b (by simp[rm])
   .rw[Zz c (by omega) b (by simp[rm]) a];exact g n b
theorem j0 (k:Nat) (p:64<=k) (b:List Int) (o:b.length=192):∀j,j<=3->(fE (zE (tJ k) k) b j).fu = -1/\(fE (zE (tJ k) k) b j).N.length=64*k/\∀n,n<k->sec (fE (zE (tJ k) k) b j).N n=if 1<=n/\n<1+j then sec b (n-1) else rm
 | 0,_=>by obtain⟨f,a,g⟩:=zE_at k k zL;exact⟨f,a,fun n d=>by rw[zb (by omega)];exact g n d⟩
 | j+1,m=>by
  obtain⟨f,a,g⟩:=j0 k p b o j (by omega);have e:(sec b j).length=64:=mD (k:=3) o (by omega);obtain⟨l,i⟩:=Zy f (1+j) (sec b j);refine⟨l,?_,fun n d=>?_⟩
  .show (tV (fE (zE (tJ k) k) b j) (1+j) (sec b j)).N.length=_;rw[i];exact jn a (by omega) e
  .show sec (tV (fE (zE (tJ k) k) b j) (1+j) (sec b j)).N n=_;rw[i];by_cases c:n=1+j
   .subst c;rw[W6 a d e,ze (by omega),show 1+j-1=j by omega]
   .rw[Zz a (by omega) d e c,g n d];by_cases h:1<=n/\n<1+j
    .rw[ze h,ze (by omega)]
    .rw[zb h,zb (by omega)]
def fmtS (k n:Nat):List Int:=if n=0 then sV k else if n=37 then qq else if 1<=n/\n<4 then sec (uC (uf 16)) (n-1) else rm
theorem Yp (k:Nat) (o:64<=k) (n:Nat) (m:n<k):sec (fmtE (tJ k) k).N n=fmtS k n:=by
 obtain⟨j,d,l⟩:=j0 k o (uC (uf 16)) (fj _) 3 (by omega);obtain⟨h,c⟩:=Zy j 37 qq;obtain⟨i,g⟩:=Zy h 0 (sV k);have b:(tV (fE (zE (tJ k) k) (uC (uf 16)) 3) 37 qq).N.length=64*k:=by rw[c];exact jn d (by omega) ft
 have f:(fmtE (tJ k) k).N=putS (putS (fE (zE (tJ k) k) (uC (uf 16)) 3).N 37 qq) 0 (sV k):=by unfold fmtE pN;rw[zb (by rw[i];decide)];show (tV (tV (fE (zE (tJ k) k) (uC (uf 16)) 3) 37 qq) 0 (sV k)).N=_;rw[g,c]
 rw[f,<-c];unfold fmtS;by_cases e:n=0
 .subst e;rw[ze rfl,W6 b m (fy k)]
 .rw[zb e,Zz b (by omega) m (fy k) e,c];by_cases a:n=37
  .subst a;rw[ze rfl,W6 d m ft]
  .rw[zb a,Zz d (by omega) m ft a,l n m]
theorem ZM (k:Nat) (i:64<=k):(fmtE (tJ k) k).fu = -1/\(fmtE (tJ k) k).W=[]/\(fmtE (tJ k) k).N.length=64*k/\(fmtE (tJ k) k).S=(fmtE (tJ k) k).N:=by
 obtain⟨f,e,h⟩:=j0 k i (uC (uf 16)) (fj _) 3 (by omega);obtain⟨d,g⟩:=Zy f 37 qq;obtain⟨b,c⟩:=Zy d 0 (sV k);have a:(tV (fE (zE (tJ k) k) (uC (uf 16)) 3) 37 qq).N.length=64*k:=by rw[g];exact jn e (by omega) ft
 unfold fmtE pN;rw[zb (by rw[b];decide)];refine⟨?_,rfl,?_,rfl⟩
 .show decF _ = -1;rw[b];rfl
 .show (tV (tV (fE (zE (tJ k) k) (uC (uf 16)) 3) 37 qq) 0 (sV k)).N.length=_;rw[c];exact jn a (by omega) (fy k)
def mS : Pn:=⟨2,493,0,0,0,1,1,[]⟩
def gN : List Pn:=mS::List.replicate 31 zN
theorem RI: pnOf (half qq 0)=mS:=by kernel_rfl
theorem RH (i:Nat) (a:i<2):half rm i=List.replicate 32 0:=by
 have:i=0\/i=1:=by omega
 rcases this with rfl|rfl<;>rfl
theorem UQ: pnOf (List.replicate 32 0)=zN:=by kernel_rfl
theorem Tm: encF (foB (uC (uf 16)))=encF (uf 16):=by kernel_rfl
theorem RG: rV (foB (uC (uf 16)))=0:=by kernel_rfl
theorem P9: vN (uf 16) 0=true:=by kernel_rfl
theorem P8: vN (uf 16) 1=false/\vN (uf 16) 2=false/\vN (uf 16) 3=false:=⟨by kernel_rfl,by kernel_rfl,by kernel_rfl⟩
theorem OX: o9 (half qq 0):=⟨by kernel_rfl,by unfold mi;decide,by kernel_rfl,by kernel_rfl⟩
theorem Qw: o9 (List.replicate 32 0):=⟨by kernel_rfl,by unfold mi;decide,by kernel_rfl,by kernel_rfl⟩
theorem K6: ll rm:=⟨by kernel_rfl,by decide,by kernel_rfl,by kernel_rfl⟩
theorem Qv: sc rm=[]:=by kernel_rfl
theorem iN (k n:Nat) (a:n≠0):fmtS k n=fmtS 64 n:=by unfold fmtS;rw[zb a,zb a]
theorem Kk (k n:Nat) (h:4<=n) (a:n≠37):fmtS k n=rm:=by unfold fmtS;rw[zb (by omega),zb a,zb (by omega)]
theorem WR (i:Nat) (a:i<16):(uf 16).nd 0 i=((37+i:Nat):Int):=by show (if 0=0/\i<16 then _ else _)=_;rw[ze ⟨rfl,a⟩]
theorem Wk (k:Nat) (j:Nat) (c:j<32):nl (fmtS k) ((uf 16).nd 0) j=if j=0 then half qq 0 else List.replicate 32 0:=by
 unfold nl;rw[WR _ (by omega),yy];by_cases a:j=0
 .subst a;rw[ze rfl];rfl
 .rw[zb a];by_cases b:j=1
  .subst b;show half qq 1=_;unfold half qq;rw[uj (by rw[Wz];omega),yP (by rw[Wz];omega)];rfl
  .rw[Kk k _ (by omega) (by omega)];exact RH _ (by omega)
theorem Sk (k:Nat) (b:64<=k):jh (fmtS k) ((uf 16).nd 0) k:=by
 refine⟨fun j a=>?_,fun j a=>?_⟩
 .rw[WR j a];omega
 .rw[Wk k j a];split
  .exact OX
  .exact Qw
theorem QC (k:Nat):sQ (fmtS k) ((uf 16).nd 0) 32=gN:=by
 unfold sQ gN;apply tu
 .simp
 .intro i a c;have b:i<32:=by simpa using a
  rw[uH,List.getElem_range,Wk k i b];cases i with
  | zero=>exact RI
  | succ i=>
   rw[zb (by omega),List.getElem_cons_succ,List.getElem_replicate];exact UQ
theorem Wa (k:Nat):sH (fmtS k)=uC (uf 16):=by
 unfold sH;rw[iN k 1 (by omega),iN k 2 (by omega),iN k 3 (by omega)];show sec (uC (uf 16)) 0++(sec (uC (uf 16)) 1++sec (uC (uf 16)) 2)=_
 kernel_rfl
theorem Rc (k:Nat) (g:64<=k):ji (fmtS k) (uf 16) k:=by
 refine⟨by rw[Wa];exact Tm,by rw[Wa];exact RG,P9,fun t i f e a=>?_⟩;obtain⟨c,b,d⟩:=P8;have:t=0\/t=1\/t=2\/t=3:=by omega
 rcases this with rfl|rfl|rfl|rfl
 .rw[WR i e];omega
 .rw[c]at a;cases a
 .rw[b]at a;cases a
 .rw[d]at a;cases a
section
variable {N : Nat->List Int} {k : Nat}
theorem Ra (b:64<=k) (a:∀n,n<k->N n=fmtS k n):ji N (uf 16) k:=by
 have h:=Rc k b;have e:sH N=sH (fmtS k):=by unfold sH;rw[a 1 (by omega),a 2 (by omega),a 3 (by omega)]
 exact⟨by rw[e];exact h.eq,by rw[e];exact h.right,h.root,h.nds⟩
theorem Wj (b:64<=k) (a:∀n,n<k->N n=fmtS k n) (j:Nat) (c:j<32):nl N ((uf 16).nd 0) j=nl (fmtS k) ((uf 16).nd 0) j:=by unfold nl;rw[WR _ (by omega),yy,a _ (by omega)]
theorem Sj (b:64<=k) (c:∀n,n<k->N n=fmtS k n):jh N ((uf 16).nd 0) k:=by have h:=Sk k b;exact⟨h.1,fun j a=>by rw[Wj b c j a];exact h.2 j a⟩
theorem XC (b:64<=k) (c:∀n,n<k->N n=fmtS k n):sQ N ((uf 16).nd 0) 32=gN:=by rw[<-QC k];unfold sQ;refine wW fun j a=>?_;rw[Wj b c j (by simpa using a)]
theorem Nm (i:Nat) (a:i<32):gN.getD i zN=if i=0 then mS else zN:=by
 unfold gN;cases i with
 | zero=>rfl
 | succ i=>
  rw[zb (by omega),List.getD_cons_succ,zh,yY,ze (by omega)];rfl
end
def fs0 (k:Nat):Fs:=⟨fmtE (tJ k) k,k,0,uf 16,[],gN,[],[]⟩
theorem LU (k n:Nat) (e:k<=256):∀x∈fmtS k n,0<=x/\x<=255:=by
 have b:∀l:List Int,(l.all fun x=>decide (0<=x)&&decide (x<=255))=true->∀x∈l,0<=x/\x<=255:=fun l h x a=>by have:=yU.1 h x a;simpa using this
 have d:(rm.all fun x=>decide (0<=x)&&decide (x<=255))=true:=by kernel_rfl
 unfold fmtS;split
 .intro x a;unfold sV at a;have c:=b (over (List.replicate 64 0) 0 (bI mT)) (by kernel_rfl);rcases vu a with a|rfl
  .rcases vu a with a|rfl
   .exact c x a
   .omega
  .omega
 .split
  .exact b _ (by kernel_rfl)
  .split
   .next h=> 
    have:n=1\/n=2\/n=3:=(by omega);rcases this with rfl|rfl|rfl<;>exact b _ (by kernel_rfl)
   .exact b _ d
theorem JK {N:List Int} (d:N.length=64*k) (h:∀n,n<k->ue (sec N n)):ue N:=fun x c=>by obtain⟨q,a⟩:=va.1 c;have b:q<N.length:=(zy.1 a).1;refine h (q / 64) (by omega) x (va.2 ⟨q%64,?_⟩);unfold sec;rw[wM (by omega),yo,show 64*(q / 64)+q%64=q by omega];exact a
theorem X9 (k:Nat) (hk:64<=k) (aa:k<=256) (w:World):
 Calls prog 13 #[k] w
  (fun e w'=>∃gf a F,e=.returned (.tuple #[(gf,()),.pointer (some a)])/\FsAt w' gf (fs0 k) F a/\Below w w w'/\(∀i,F i->w.heap.size<=i)):=by
 have HN:=Lib.hid (UY k (k:Int) rfl (by omega) aa w);obtain⟨g1,P,J,Z⟩:=ZM k hk;have b:=Yp k hk;have m:sec (fmtE (tJ k) k).N 5=rm:=by rw[b 5 (by omega),Kk k 5 (by omega) (by omega)]
 have f:sec (fmtE (tJ k) k).N 4=rm:=by rw[b 4 (by omega),Kk k 4 (by omega) (by omega)]
 have j:oZ (fmtE (tJ k) k).N=false:=by unfold oZ hB;rw[m];rfl
 have c:qU (fmtE (tJ k) k).N=[]:=by unfold qU okO;rw[j];rfl
 have q:li (fmtE (tJ k) k)=fmtE (tJ k) k:=by unfold li;rw[c];rfl
 have r:seqO (fmtE (tJ k) k).N=0:=by unfold seqO;rw[j];rfl
 have s:ue (fmtE (tJ k) k).N:=JK J fun n D=>by rw[b n D];exact LU k n aa
 have l:sc (sec (fmtE (tJ k) k).N 4)=[]:=by rw[f];exact Qv
 have I:=Lib.hid (fun (W:World) (a:Addr) (F:Nat->Prop) (h:uL W (.pointer (some a)) (fmtE (tJ k) k) k F)=>Y5 h hk aa (fmtE (tJ k) k) 0 (fun W' B=>by have T:=Y3 hk aa (h.below B) s (by rw[c];intro x hx;cases hx) (by rw[P];show 0<900000;omega);rw[q,r]at T;exact T)
  (by rw[b 0 (by omega)];rfl) (fun n D=>by rw[b n D];exact LU k n aa) (uf 16) (Ra hk b) (Sj hk b) (by rw[f];exact K6) (by
   rw[XC hk b];intro X t;unfold gN at t;rcases yN.1 t with rfl|t
   .right;decide
   .left;rw[x9 t];rfl))
 rw[XC hk b,l]at I;clear g1 P J Z b m f j c q r s l;go_enter func13,ntmps13;go_wp2_with fail
 refine HN.o.mono ?_;rintro e w1 ⟨d,F,rfl,u,S,K,v⟩;obtain⟨a,rfl⟩:=u.ptr;have O:=Lib.hid S;have A:=Lib.hid K;have z:=Lib.hid (P3 u hk aa (by simp[tJ]));clear u S K v;go_wp2_with fail
 refine z.o.mono ?_;rintro e V ⟨rfl,L,M,Y,Q⟩;have y:=Lib.hid (I.o V a L M);have g:Hid (Below w w V):=A.o.trans (Q.to_below O.o A.o.size);have p:Hid (∀i,L i->w.heap.size<=i):=fun i C=>(Y i C).elim (O.o i) (fun h=>zr A.o.size h);clear M Y Q;go_wp2_with fail
 refine y.o.mono ?_;rintro e H ⟨gf,E,rfl,R,G,U⟩;have HX:Hid (FsAt H gf (fs0 k) E a/\Below w w H/\∀i,E i->w.heap.size<=i):=⟨R,g.o.trans (G.to_below p.o g.o.size),fun i C=>(U i C).elim (p.o i) (fun h=>zr g.o.size h)⟩;clear R G U;go_wp2;go_ret2;exact⟨gf,a,E,rfl,HX.o⟩
theorem Q8 (v:Value) (D:List Int) (w:World) (h:tQ w v D) (Y:D.length<=1000) (p n:Nat) (hn:n<=512) (Z:0<n) (hp:p<=1000000):
 Calls prog 39 #[v,p,n] w (fun e w'=>∃v',e=.returned v'/\vC w' v' (rz D p n)/\(∀b,v'.ownBlock=some b->w.heap.size<=b)/\Below w w w'):=by
 obtain⟨N,c⟩:=zD D.length;obtain⟨q,r,rfl⟩:=mH h.1 N c.o;have B:N<=r:=h.2 q N r rfl;have S:=Lib.hid h;rw[c.o]at Y;clear h;by_cases u:N<=p
 .have F:decide ((N:Int)<=(p:Int))=true:=yf (by omega);have A:(N:Int)<=(p:Int):=by omega
  have T:Hid (rz D p n=[]):=by show _=_;unfold rz;rw[vm (by rw[c.o];exact u)];simp
  go_enter lz,nO
  go_wp2;go_ret;rw[T.o];exact⟨_,rfl,⟨rfl,zt ⟨rfl,_,_,rfl⟩⟩,fun b s=>(by cases s),zB⟩
 .have F:decide ((N:Int)<=(p:Int))=false:=zK (by omega);have A:¬(N:Int)<=(p:Int):=by omega
  have X:=zW ((p:Int)+(n:Int));obtain⟨m,t,i⟩:∃m:Nat,min N (p+n)=m/\(m<=N/\m<=p+n/\(m=N\/m=p+n)):=⟨_,rfl,by omega⟩;have d:m-p=min n (N-p):=by omega
  rw[<-t]at d i;have k:0<min n (N-p):=by omega
  have M:p<=m:=by omega
  have K:m<=r:=by omega
  obtain⟨_,⟨V,_⟩|⟨g,o,G,y,z⟩⟩:=id S.o.1
  .have:=c.o;omega
  injection y with Q J R;subst Q R;clear J;have l:=Lib.hid (jB (g,o+p,(min N (p+n)-p),(r-p)) (rz D p n) w ⟨by rw[vO,vD],zu ⟨g,o+p,r-p,by unfold rz;rw[zi,yx,c.o];rw[d],fun j x f=>by
   unfold rz at f;rw[od,zI]at f;split at f
   .rw[mr,yo]at f;have:=z (p+j) x f
    rwa [<-yA]at this
   .cases f⟩⟩ (by unfold rz;rw[zi,yx,c.o];omega) (by unfold rz;rw[zi,yx,c.o];omega))
  rw[show min N (p+n)=(min (N:Int) ((p:Int)+(n:Int))).toNat by omega]at l;clear i d k z;go_enter lz,nO;go_wp2_with fail
  refine l.o.mono ?_;rintro e U ⟨H,rfl,a⟩;have E:=Lib.hid a.below;have I:=Lib.hid a.at;have O:Hid (∀b,H.ownBlock=some b->w.heap.size<=b):=by obtain⟨L,W,_,y,C,_⟩:=a;intro b s;rw[y]at s;have P:L=b:=(by simpa[Value.ownBlock]using s);have:=C.1;omega
  clear a;go_wp2;go_ret;exact⟨_,rfl,I.o,O.o,E.o⟩
theorem Ig {gf:Nat} {s:Fs} (h:FsAt w gf s F a) (aa:mf s) (i:Nat) (hi:i<32) (X:Pn) (hX:s.nodes[i]?=some X) (hk:X.k=1) (hP:ng X.P s.k) (ae:X.P.length<=8) (hs:0<=X.s/\X.s<=512)
 (p n:Nat) (hn:n<=512) (ag:0<n) (hp:p<=1000000):
 Calls prog 11 #[(gf,()),.int .i64 ((i:Int)+1),p,n] w
  (fun e w'=>∃v,e=.returned (.tuple #[v,()])/\vC w' v (rz (tc (secE s) X.P X.s) p n)/\(∀b,v.ownBlock=some b->w.heap.size<=b)/\Below w w w'):=by
 have j:=Lib.hid (gU h i hi X hX);rw[hk,zb (by omega),ze rfl]at j;obtain⟨gn,on,cn,N,J,K,I,S,O,e1,e2,e3,e4,Z,e6,e7,L⟩:=oU h i hi X hX;have i1:IntKind.i64.wrap ((i:Int)+1-1)=(i:Int):=by rw[zQ _ (by omega)];omega
 have f:=Ks (ip h aa) X.k X.m X.u X.g X.s X.l X.up (N,J,K) X.P L.now ae hP hs.1 hs.2;have c:Hid (Calls prog 40 #[.iface 87 (.agg #[(gf,())]),.agg #[X.k,X.m,X.u,X.g,X.s,X.l,X.up,(N,J,K)]] w
  (fun e w'=>∃v',e=.returned v'/\w'.ownsRow (w.heap.size+1) 5 1 v' (tc (secE s) X.P X.s).length (u8s (tc (secE s) X.P X.s))/\Below w w w')):=f
 have t:=Kt (secE s) X.P X.s;obtain⟨D,U⟩:=zD (tc (secE s) X.P X.s);rw[U.o]at c t ⊢;rw[hk]at c O;have G:Hid (D.length<=1000):=Lib.hid (by omega);have p1:decide ((p:Int)<0)=false:=zK (by omega);have p2:decide ((n:Int)<0)=false:=zK (by omega);have V:decide ((512:Int)<(n:Int))=false:=zK (by omega);have Y:¬((p:Int)<0):=by omega
 have W:¬((n:Int)<0):=by omega
 have p6:¬((512:Int)<(n:Int)):=by omega
 have p7:¬(512<n):=by omega
 clear h aa hX hP hs t L f hk;go_enter func11,ntmps11;go_wp2_with fail
 refine j.o.mono ?_;rintro e H ⟨rfl,rfl⟩;go_wp2_with fail
 refine c.o.mono ?_;rintro e H ⟨R,rfl,C,x⟩;have q:=Lib.hid x;have z:=Lib.hid (Q8 R D H ⟨xT.of_owns C,lL C⟩ G.o p n hn ag hp);clear C x;go_wp2_with fail
 refine z.o.mono ?_;rintro e T ⟨M,rfl,d,y,r⟩;have B:=Lib.hid d;have A:Hid (∀b,M.ownBlock=some b->w.heap.size<=b):=fun b Q=>zr q.o.size (y b Q);have E:Hid (Below w w T):=Below.step q.o r;clear d r y;go_wp2;go_ret2;exact⟨M,rfl,B.o,A.o,E.o⟩
