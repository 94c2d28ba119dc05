import Derived.Test.YtakfhadmokoikaaGreatDoorKA43
set_option maxHeartbeats 0
set_option linter.all false
set_option maxRecDepth 100000
namespace Go.Proofs.YtakfhadmokoikaaGreatDoor
open Go.Proofs.Tryz Go.RowKit
variable {Dt l:List Int} {F:Nat->Prop} {a:Addr} {gf:Nat} {s:Fs} {u:Int} {w:World} {z:Tx}
def wrtB (D Dt:List Int) (p:Nat):List Int:=(List.range (max D.length (p+Dt.length))).map fun q=>if p<=q/\q<p+Dt.length then Dt.getD (q-p) 0 else D.getD q 0
theorem VN (f Dt:List Int) (p k:Nat) (g:f.length=64):∀n,n<=64->(sX f Dt p k n).length=64/\∀r,r<64->(sX f Dt p k n)[r]?=if r<n/\p<=64*k+r/\64*k+r<p+Dt.length then some (Dt.getD (64*k+r-p) 0) else f[r]?
 | 0,_=>⟨g,fun r _=>by rw[zb (by omega)];rfl⟩
 | n+1,e=>by
  obtain⟨c,b⟩:=VN f Dt p k g n (by omega);unfold sX;split
  .refine⟨by rw[xG];exact c,fun r a=>?_⟩;rw[sG];by_cases d:n=r
   .subst d;rw[ze rfl,ze (by omega),ze (by omega)]
   .rw[zb d,b r a]
    grind
  .refine⟨c,fun r a=>?_⟩;rw[b r a]
   grind
theorem Ox (h:∀(r:Nat) (v:Int),l[r]?=some v->0<=v/\v<=255):ue l:=fun x b=>by obtain⟨r,a⟩:=va.1 b;exact h r x a
theorem N7 (h:ue l) (q:Nat):0<=l.getD q 0/\l.getD q 0<=255:=by
 rw[zh];cases a:l[q]? with
 | none=>exact⟨wO 0,by show (0:Int)<=255;omega⟩
 | some v=>exact h v (xK a)
theorem Mb {old:List Int} (p k:Nat) (e:old.length=64) (f:ue old) (g:ue Dt):ue (sX old Dt p k 64):=by
 obtain⟨d,b⟩:=VN old Dt p k e 64 zL;refine Ox fun r v a=>?_;have c:r<64:=by
  rcases sa r 64 with h|h
  .exact h
  .rw[yd (by omega)]at a;cases a
 rw[b r c]at a;split at a
 .injection a with a;rw[<-a];exact N7 g _
 .exact f v (xK a)
section
variable {x : Tx} {s : Fs} {n c i : Nat} {A : Nat->AN} {T : List Nat} {δ : Nat->Int}
theorem TV.byte (h:TV x s n T A) (f:ja s) (e:i<32) (q:Nat) (g:(q:Int)<(A i).s):(A i).D[q]?=(blk x s i (q / 64))[q%64]? :=by have a:=h.at e;have d:=oL (h.ti.nd i e);have c:=a.2.2.2.2.1;rw[<-a.2.2.2.2.2.2.2,lP _ _ e,wM (by omega),Kl (fun b=>(h.ti.blk_ok f e b).1) _ _ (by omega)]
theorem TV.byteD (h:TV x s n T A) (e:ja s) (d:i<32) (q:Nat):(blk x s i (q / 64))[q%64]?=some ((A i).D.getD q 0):=by
 have b:=h.len e d;have c:=(h.ti.blk_ok e d (q / 64)).1;by_cases a:(q:Int)<(A i).s
 .rw[<-h.byte e d q a,zh,zf (by omega)];rfl
 .rw[h.z i d (q / 64) (q%64) (by omega) (by rw[(h.at d).2.2.2.2.1];omega),zh,yd (by omega)];rfl
theorem ZQ (h:TI z s T) (e:ja s) (d:i<32) {D:List Int} (g:((D.length:Nat):Int)=(z.nodes.getD i zN).s) (f:∀q,q<D.length->(blk z s i (q / 64))[q%64]?=D[q]?):z.dirD s i=D:=by
 have c:=oL (h.nd i d);rw[lP _ _ d];apply xS;intro q;by_cases a:q<D.length
 .rw[wM (by omega),Kl (fun b=>(h.blk_ok e d b).1) _ _ (by omega),f q a]
 .rw[yd (by rw[zi];omega),yd (by omega)]
theorem TI.writes (h:TI z s T) (F:ja s) (E:i<32) (G:i∈T) (H:ue Dt) (p k0:Nat) (C:Tx):∀j,k0+j<=(z.nodes.getD i zN).P.length->TI (z.uw i (wrtU s C Dt p k0 (z.uy i) j)) s T /\
 (∀i' b',i'<32->blk (z.uw i (wrtU s C Dt p k0 (z.uy i) j)) s i' b'=if i'=i/\k0<=b'/\b'<k0+j then sX (blk z s i b') Dt p b' 64 else blk z s i' b')/\(wrtU s C Dt p k0 (z.uy i) j).P.length=(z.nodes.getD i zN).P.length /\
 z.fake<=(z.uw i (wrtU s C Dt p k0 (z.uy i) j)).fake/\(z.uw i (wrtU s C Dt p k0 (z.uy i) j)).fake<=z.fake+j/\(z.uw i (wrtU s C Dt p k0 (z.uy i) j)).put.length<=z.put.length+j
 | 0,_=>by unfold wrtU;rw[fX z i h.len E];exact⟨h,fun i' b' _=>by rw[zb (by omega)],rfl,wO _,by show z.fake<=_;omega,zL⟩
 | j+1,B=>by
  obtain⟨x,f,n,q,o,w⟩:=h.writes F E G H p k0 C j (by omega);have A:=fld8 (h.nd i E);have e:sB {C.wow (wrtU s C Dt p k0 (z.uy i) j).ow with put:=(wrtU s C Dt p k0 (z.uy i) j).put} s (wrtU s C Dt p k0 (z.uy i) j).P (k0+j)=blk z s i (k0+j):=by have d:=f i (k0+j) E;rw[zb (by omega)]at d;rw[<-d];unfold sB blk tE;rw[l9 _ _ _ h.len,ze E,ze rfl];rfl
  have c:=h.blk_ok F E (k0+j);obtain⟨k,u,y,v,l,m,r⟩:=x.wr h.len E G (by omega) (b:=k0+j) (by omega) (D:=sX (blk z s i (k0+j)) Dt p (k0+j) 64) ⟨(VN _ Dt p _ c.1 64 zL).1,Mb p _ c.1 c.2 H⟩;unfold wrtU;rw[e];have t:(wrtU s C Dt p k0 (z.uy i) j).ow.fk<=z.fake+j:=o;have g:(wrtU s C Dt p k0 (z.uy i) j).put.length<=z.put.length+j:=w;refine⟨k,fun i' b' a=>(u i' b' a).trans ?_,r.trans n,wN q v,wN l (by omega),zr m (by omega)⟩;rw[f i' b' a]
  grind
theorem Uh (i:Nat) (f:i<32) (g:s.nodes.length=32) (p:Nat) (Dt:List Int):
 wrtT s i (s.nodes.getD i zN) p Dt=((tx0 s).cutX i (max (s.nodes.getD i zN).P.length ((p+Dt.length+63) / 64)) (max (s.nodes.getD i zN).s ((p+Dt.length:Nat):Int))).uw i
  (wrtU s (tx0 s) Dt p (p / 64) (((tx0 s).cutX i (max (s.nodes.getD i zN).P.length ((p+Dt.length+63) / 64)) (max (s.nodes.getD i zN).s ((p+Dt.length:Nat):Int))).uy i) ((p+Dt.length-1) / 64+1-p / 64)):=by
 have b:(s.nodes.getD i zN).P.take (max (s.nodes.getD i zN).P.length ((p+Dt.length+63) / 64))=(s.nodes.getD i zN).P:=zv (by omega);have e:(s.nodes.getD i zN).P.drop (max (s.nodes.getD i zN).P.length ((p+Dt.length+63) / 64))=[]:=yP (by omega);have c:max (s.nodes.getD i zN).P.length ((p+Dt.length+63) / 64)-(s.nodes.getD i zN).P.length=(p+Dt.length+63) / 64-(s.nodes.getD i zN).P.length:=by omega
 have d:((tx0 s).cutX i (max (s.nodes.getD i zN).P.length ((p+Dt.length+63) / 64)) (max (s.nodes.getD i zN).s ((p+Dt.length:Nat):Int))).uy i=⟨(tx0 s).ow,[],(s.nodes.getD i zN).P++List.replicate ((p+Dt.length+63) / 64-(s.nodes.getD i zN).P.length) 0⟩:=by unfold Tx.uy Tx.cutX;have a:(tx0 s).nodes=s.nodes:=rfl;simp only[a,rp,g,f,uv,vl,b,c];rfl
 rw[d];unfold wrtT wrtP wrtY Tx.uw Tx.cutX;have a:(tx0 s).nodes=s.nodes:=rfl;simp only[a,rp,g,f,uv,vl,rI,e,List.reverse_nil,xn];rfl
theorem SI.write (hs:SI s c A) (g:GI A fun _=>0) (hc:c<=1000) (hi:i<32) (hk:(A i).k=1) {p:Nat} (hp:p+Dt.length<=512) (h0:0<Dt.length) (hd:ue Dt):
 kj s i p Dt/\TV (wrtT s i (s.nodes.getD i zN) p Dt) s 8 [i] (upA A i {A i with s:=((wrtB (A i).D Dt p).length:Int),D:=wrtB (A i).D Dt p})/\GI (upA A i {A i with s:=((wrtB (A i).D Dt p).length:Int),D:=wrtB (A i).D Dt p}) fun _=>0:=by
 have e:=hs.tv [i];have F:s.nodes.length=32:=e.ti.len;have N:=e.fld hi (by rw[hk];decide);have B:(s.nodes.getD i zN).s=(A i).s:=(hs.A_at hi).2.2.2.2.1;have n:=oL (e.ti.nd i hi);have U:=fld8 (e.ti.nd i hi);have hD:=e.len hs.sec hi;have u:((s.nodes.getD i zN).P.length:Int)=tX (s.nodes.getD i zN).s:=N.2.2.2.2.2;have m:(wrtB (A i).D Dt p).length=max (A i).D.length (p+Dt.length):=by unfold wrtB;rw[yw,sF]
 have Q:=e.ti.cutX hi (max (s.nodes.getD i zN).P.length ((p+Dt.length+63) / 64)) (max (s.nodes.getD i zN).s ((p+Dt.length:Nat):Int)) (by have h1:(s.nodes.getD i zN).s<=512:=n.2.1;omega) (by have h3:(s.nodes.getD i zN).s=(A i).s:=B;unfold tX at u ⊢;split at u<;>split<;>omega) (e.ne hi (by rw[hk];decide));have C:=Vg e.ti.len hi (max (s.nodes.getD i zN).P.length ((p+Dt.length+63) / 64)) (max (s.nodes.getD i zN).s ((p+Dt.length:Nat):Int));have J:((((tx0 s).cutX i (max (s.nodes.getD i zN).P.length ((p+Dt.length+63) / 64)) (max (s.nodes.getD i zN).s ((p+Dt.length:Nat):Int))).nodes.getD i zN).P).length=max (s.nodes.getD i zN).P.length ((p+Dt.length+63) / 64):=by unfold Tx.cutX;have X:(tx0 s).nodes=s.nodes:=rfl;simp only[X,rp,F,hi,uv,vl,zl,zi,zR];omega
 have I:=Q.writes hs.sec hi (by simp) hd p (p / 64) (tx0 s) ((p+Dt.length-1) / 64+1-p / 64) (by rw[J];omega);rw[J,<-Uh i hi F p Dt]at I;have f:∀j,(wrtT s i (s.nodes.getD i zN) p Dt).nodes.getD j zN=if j=i then wrtP s (s.nodes.getD i zN) p Dt else s.nodes.getD j zN:=fun j=>by unfold wrtT;simp only[rp,F];grind
 obtain⟨G,a2,a3,S,R,Z⟩:=I;have y:∀j b,j<32->blk ((tx0 s).cutX i (max (s.nodes.getD i zN).P.length ((p+Dt.length+63) / 64)) (max (s.nodes.getD i zN).s ((p+Dt.length:Nat):Int))) s j b=blk (tx0 s) s j b:=fun j b d=>by
  unfold blk;rw[C];simp only;split
  .rename_i hc;have:(tx0 s).pf j b=0:=(by unfold Tx.pf;rw[ze d,hc.1,zh,yd (by show (s.nodes.getD i zN).P.length<=b;omega)];rfl);rw[this];rfl
  .rfl
 have t:∀j b,j<32->∀r,r<64->(blk (wrtT s i (s.nodes.getD i zN) p Dt) s j b)[r]?=if j=i/\p<=64*b+r/\64*b+r<p+Dt.length then some (Dt.getD (64*b+r-p) 0) else (blk (tx0 s) s j b)[r]? :=fun j b d r o=>by
  rw[a2 j b d];by_cases hc:j=i/\p / 64<=b/\b<p / 64+((p+Dt.length-1) / 64+1-p / 64)
  .rw[ze hc,y i b hi,(VN _ Dt p b (e.ti.blk_ok hs.sec hi b).1 64 zL).2 r o,hc.1]
   grind
  .rw[zb hc,y j b d,zb (by omega)]
 have w:((wrtB (A i).D Dt p).length:Int)=max (s.nodes.getD i zN).s ((p+Dt.length:Nat):Int):=by rw[m,B];omega
 have H:TV (wrtT s i (s.nodes.getD i zN) p Dt) s 8 [i] (upA A i {A i with s:=((wrtB (A i).D Dt p).length:Int),D:=wrtB (A i).D Dt p}):=by
  refine⟨G,⟨⟨?_,?_⟩,ye _,?_,zL⟩,fun j d=>?_,fun j d b r o h=>?_⟩
  .exact S
  .refine wN R ?_;show (256:Int)+(((p+Dt.length-1) / 64+1-p / 64:Nat):Int)<=256+((8:Nat):Int);omega
  .exact zr Z (by show 0+((p+Dt.length-1) / 64+1-p / 64)<=8;omega)
  .unfold upA;by_cases a:j=i
   .subst a;rw[ze rfl];have E:(wrtT s j (s.nodes.getD j zN) p Dt).dirD s j=wrtB (A j).D Dt p:=by
     refine ZQ G hs.sec d (by rw[f,ze rfl];exact w) fun q h=>?_;rw[t j _ d _ (rH _ (by omega)),show 64*(q / 64)+q%64=q by omega,e.byteD hs.sec d q];unfold wrtB;rw[xy,vo (by rw[m]at h;exact h)]
     grind
    unfold vw;rw[E,f,ze rfl,w];obtain⟨K,V,O,W,_,M,T,_⟩:=hs.A_at d;unfold wrtP;simp only;rw[K,V,O,W,M,T]
   .rw[zb a,<-e.v j d];unfold vw;rw[WH (x:=tx0 s) d (by rw[f,zb a];rfl) (by rw[f,zb a];rfl) fun b=>by
     apply xS;intro r;by_cases o:r<64
     .rw[t j b d r o,zb (by omega)]
     .rw[yd (by rw[(G.blk_ok hs.sec d b).1];omega),yd (by rw[(e.ti.blk_ok hs.sec d b).1];omega)],f,zb a]
    rfl
  .rw[f]at h;rw[t j b d r o];by_cases a:j=i
   .rw[ze a]at h;have Y:max (s.nodes.getD i zN).s ((p+Dt.length:Nat):Int)<=((64*b+r:Nat):Int):=h;rw[zb (by omega)];exact e.z j d b r o (by rw[a];show (s.nodes.getD i zN).s<=_;omega)
   .rw[zb a]at h;rw[zb (by omega)];exact e.z j d b r o h
 have gi:=(g.set hi {A i with s:=((wrtB (A i).D Dt p).length:Int),D:=wrtB (A i).D Dt p} (by show (A i).k≠0;rw[hk];decide) (by unfold uK;rw[zb (by show (A i).k≠2;rw[hk];decide),zb (by rw[hk];decide)]) (fun L=>yb (hk.symm.trans L) (by decide)) (g.pos i hi (by rw[hk];decide)) (fun h0=>by subst h0;exact yb (hk.symm.trans g.root) (by decide))).congr (δ':=fun _=>0) fun j _=>by
  show (0:Int)=0+if j=i then (A i).l-(A i).l else 0
  split<;>omega
 exact⟨⟨hs.pts hi,U,⟨n.1,n.2.1⟩,H.run hs hc (by omega) hs.rows⟩,H,gi⟩
end
theorem Ja (l:Value) (fo:Fo) (rv m n o gv:Value) (k:Bool) (fake:Int) (g:Fo):((txR l fo rv m n o gv k fake).toList.take 1++(encF g).toList++(txR l fo rv m n o gv k fake).toList.drop (1+(encF g).size)).toArray=txR l g rv m n o gv k fake:=by
 apply yV;intro i;have c:(encF g).toList.length=192:=by simpa using uh g
 have a:(txR l fo rv m n o gv k fake).toList.length=200:=by simpa using qY l fo rv m n o gv k fake
 have f:∀j,(txR l fo rv m n o gv k fake).toList[j]?=(txR l fo rv m n o gv k fake)[j]? :=fun j=>zP;rw[xB,uh];by_cases h:i<1
 .rw[zU,zO (by rw[zi,a];omega),zI,ze h,f,qf _ _ _ _ _ _ _ _ _ _ (by omega),qf _ _ _ _ _ _ _ _ _ _ (by omega)];unfold pL;rw[ze (by omega),ze (by omega)]
 .by_cases d:i<193
  .have b:=sS g ((i-1) / 48) ((i-1)%48) (by omega) (by omega);rw[show (i-1) / 48*48+(i-1)%48=i-1 by omega]at b;rw[zU,zx (by rw[zi,a];omega),zO (by rw[zi,a,c];omega),zi,a,qf _ _ _ _ _ _ _ _ _ _ (by omega),zP,show min 1 200=1 by omega,b];unfold pL;rw[zb (by omega),ze (by omega)]
  .rw[zU,zx (by rw[zi,a];omega),zx (by rw[zi,a,c];omega),yo,zi,a,c,f];rw[show 1+192+(i-min 1 200-192)=i by omega];by_cases b:i<200
   .rw[qf _ _ _ _ _ _ _ _ _ _ b,qf _ _ _ _ _ _ _ _ _ _ b];unfold pL;have e:¬i=0:=(by omega);rw[zb e,zb e,zb d,zb d]
   .rw[ya (by rw[qY];omega),ya (by rw[qY];omega)]
def lG (s:Fs):(Int×Int)×Fs:=
 if (sU s.fo).2.2=0 then (if endE s {tx0 s with fo:=(sU s.fo).1}=0 then (((sU s.fo).2.1:Int),0) else (0,endE s {tx0 s with fo:=(sU s.fo).1}),endS s {tx0 s with fo:=(sU s.fo).1}) else ((0,(sU s.fo).2.2),s)
theorem Rw (h:FsAt w gf s F a) (aa:(sU s.fo).2.2=0->rN s {tx0 s with fo:=(sU s.fo).1}):
 Calls prog 69 #[(gf,())] w
  (fun e w'=>e=.returned (.tuple #[.int .i64 (lG s).1.1,.int .i64 (lG s).1.2])/\uk w gf (lG s).2 F a w'):=by
 have H:=Lib.hid h;have al:=Lib.hid (oh h);obtain⟨R0,D⟩:=zD (lG s);rw[D.o];obtain⟨⟨re,rb⟩,rs⟩:=R0;obtain⟨r,n,c,k⟩:∃f n c,Hid (sU s.fo=(f,n,c)):=⟨_,_,_,rfl⟩;obtain⟨J,C⟩:∃z:Tx,Hid ({tx0 s with fo:=r}=z):=⟨_,Lib.hid rfl⟩;have HM:Hid ((if c=0 then (if endE s J=0 then ((n:Int),(0:Int)) else (0,endE s J),endS s J) else ((0,c),s))=((re,rb),rs)):=by show _=_;rw[<-D.o,<-C.o];unfold lG;rw[k.o]
 rw[k.o]at aa;have an:=Lib.hid aa;obtain⟨A,HA⟩:=zA (encF s.fo);obtain⟨X,HX⟩:=zA (encF (sU s.fo).1);have ac:=Lib.hid (Sm s.fo A X n c HA HX (Lib.hid (by rw[k.o])) (Lib.hid (by rw[k.o])));have ax:Hid (A.size=192):=by rw[HA.o];exact uh _
 have g:Hid (X.size=192):=by rw[HX.o];exact uh _
 have B:Hid (X.all (·.oneCell')=true):=by rw[HX.o];exact nw _
 obtain⟨t,V⟩:=zA (encF tA);have HZ:Hid (∀w,(zeroValue 95).run prog w=.ok (.agg t) w):=by rw[V.o];exact forZ
 have U:Hid (t.size=192):=by rw[V.o];exact uh _
 clear h aa;go_enter func69,ntmps69;go_wp2_with fail
 refine al.o.mono ?_;rintro e Z ⟨q,T,rfl,W,hT⟩;have O:=Lib.hid W;have Q:=Lib.hid hT;obtain⟨rv,gn,cn,gd,gp,gv,E,pl,hl⟩:=hT.lies;have aj:=Lib.hid hl;obtain⟨R,HR⟩:=zD (txR (gf,()) s.fo rv (.slice (some ⟨gn,0,none⟩) 32 cn) (.map (some gd)) (.map (some gp)) gv false 256);have v:Hid (Z.heap[q]?=some (.cells R 150)):=by show _=_;rw[<-HR.o];exact hl.row
 have ao:Hid (∀j,j<A.size->R[1+j]?=A[j]?):=by rw[HA.o,<-HR.o];exact gQ _ _ _ _ _ _ _ _ _
 have ag:Hid (R.size=200):=by rw[<-HR.o];exact qY _ _ _ _ _ _ _ _ _
 obtain⟨y,L⟩:=zD (txR (gf,()) r rv (.slice (some ⟨gn,0,none⟩) 32 cn) (.map (some gd)) (.map (some gp)) gv false 256);have aq:Hid ((R.toList.take 1++X.toList++R.toList.drop (1+X.size)).toArray=y):=by rw[<-HR.o,HX.o,k.o,<-L.o];exact Ja _ _ _ _ _ _ _ _ _ _
 clear W hT hl;go_wp2_with (refine pR (by kernel_rfl) 95 (.tmp 14) rfl q 1 rfl 150 R A (0,0) _ v.o ao.o forT rfl (by rw[ax.o];exact forI) ?_)
 refine (ac.o Z).mono ?_;rintro e u ⟨rfl,m⟩;have aC:=Lib.hid m;have b:Hid (Below Z Z ((u.alloc (.cells t 95)).setRow u X)):=Below.setRow (m.alloc m.size _) m.size _;have N:Hid (((u.alloc (.cells t 95)).setRow u X).heap[u.heap.size]?=some (.cells X 95)):=yi _ _ _ _ _ _ (zH);clear m;by_cases I:c=0;case neg=>
  have b0:(c==0)=false:=by simpa using I
  have b1:(c != 0)=true:=by simpa using I
  have d:=HM.o;rw[zb I]at d;injection d with d h2;injection d with d G;subst d h2 G;clear I;go_wp2_with (first
   | (refine om rfl 95 rfl t HZ.o ?_)
   | (refine yD rfl 95 (.tmp 5) (.tmp 17) rfl u X rfl rfl 95 t (zH) (by rw[g.o];exact forI) (by rw[U.o,g.o]) B.o ?_))
  go_ret2;exact⟨rfl,uk.same H.o (Below.step O.o b.o)⟩
 subst I;have x:=Lib.hid (an.o rfl);rw[C.o]at x;obtain⟨K,M⟩:=zD (endE s J);have av:Hid (((if K=0 then ((n:Int),(0:Int)) else (0,K)),endS s J)=((re,rb),rs)):=by have d:=HM.o;rw[ze rfl,M.o]at d;exact d
 go_upto_region 5 with (first
  | (refine om rfl 95 rfl t HZ.o ?_)
  | (refine yD rfl 95 (.tmp 5) (.tmp 17) rfl u X rfl rfl 95 t (zH) (by rw[g.o];exact forI) (by rw[U.o,g.o]) B.o ?_))
 obtain⟨g5,af⟩:=zD u.heap.size;rw[af.o]at b N ⊢;generalize (u.alloc (.cells t 95)).setRow g5 X=Y at *
 have p:Hid (Y.heap[q]?=some (.cells R 150)):=we b.o v.o
 go_upto_region 6 with (first
  | (refine yQ rfl 95 (.tmp 5) rfl g5 rfl 95 X (0,0) _ N.o forT rfl (by rw[g.o];exact forI) ?_)
  | (refine jr rfl 95 (.tmp 26) (.tmp 24) rfl q 1 X rfl rfl 150 R y p.o (by rw[g.o];exact forI) (by rw[g.o,ag.o];omega) B.o aq.o ?_))
 have l:(Y.setRow q y).heap[q]?=some (.cells y 150):=yi _ _ _ _ _ _ p.o;have hd:=(aj.o.below b.o).putHas (Q.o.below b.o) r (yK.setRow (F:=fun i=>i=q) rfl y) (show (Y.setRow q y).heap[q]?=some (.cells (txR (gf,()) r rv (.slice (some ⟨gn,0,none⟩) 32 cn) (.map (some gd)) (.map (some gp)) gv false 256) 150) by rw[L.o];exact l);have ak:=Lib.hid (hd.old (Below.step O.o b.o) (Q.o.below b.o));obtain⟨T4,t4,_⟩:=hd;have P:=Lib.hid (mq H.o ak.o (by rw[<-C.o];exact t4) x.o);rw[M.o]at P;generalize Y.setRow q y=w4 at *
 clear l t4;go_wp2_with fail
 refine P.o.mono ?_;rintro e w5 ⟨rfl,h5⟩;have H5:=Lib.hid h5;clear h5;have d:=av.o;injection d with d h2;subst h2;by_cases S:K=0
 .subst S;rw[ze rfl]at d;injection d with d G;subst d G;go_wp2;go_ret2;exact⟨rfl,H5.o⟩
 .have b0:(K==0)=false:=by simpa using S
  have b1:(K != 0)=true:=by simpa using S
  rw[zb S]at d;injection d with d G;subst d G;clear S;go_wp2;go_ret2;exact⟨rfl,H5.o⟩
theorem P4 (f:Fo) (k:Nat) (v:1<=k) (s:k<4) (A q:Array Value) (u:Hid (A=encF f)) (r:Hid (q=encF tA)) (t:Hid (vN f k=false)) (w:World):
 Calls prog 119 #[.agg A,k] w fun e w'=>e=.returned (.tuple #[.agg q,(4:Int)])/\Below w w w':=by
 have m:decide ((k:Int)<1)=false:=zK (by omega);have d:Hid (A.size=192):=by rw[u.o];exact uh f
 have l:Hid (∀w,(zeroValue 95).run prog w=.ok (.agg q) w):=by rw[r.o];exact forZ
 have n:Hid (prog.built 95 []=some q):=by rw[r.o];exact forB
 have c:Hid (q.size=192):=by rw[r.o];exact uh _
 have i:Hid (q.all (·.oneCell')=true):=by rw[r.o];exact nw _
 have h:Hid (∀(W:World),Calls prog 100 #[.agg A,k] W fun e w'=>e=.returned (.bool false)/\Below W W w'):=fun W=>by rw[u.o,<-t.o];exact jy f k W s
 go_enter func119,ntmps119
 go_wp2_with (first
  | (refine om rfl 95 rfl q l.o ?_)
  | (refine Ug (by kernel_rfl) 95 (.tmp 2) rfl w rfl 95 A (0,0) _ (vG w _ _) forT rfl (by rw[d.o];exact forI) ?_))
 refine (h.o _).mono ?_;rintro e j ⟨rfl,a⟩;have b:Hid (j.heap[w.heap.size+1]?=some (.cells q 95)):=we a (vg w _ _);have g:Below w w j:=Below.step ((zB.alloc zL _).alloc (by simp) _) a;clear a;have p:=l.o;go_wp2_with (first
  | (refine yD rfl 95 (.tmp 4) (.tmp 14) rfl (w.heap.size+1) q rfl rfl 95 q b.o (by rw[c.o];exact forI) rfl i.o ?_))
 refine yS (Zx rfl _ _ (w.heap.size+1) 95 q (0,0) _ (.int .i64 4) rfl rfl (yi _ _ _ _ _ _ b.o) forT rfl (by rw[c.o];exact forI)) rfl ⟨rfl,?_⟩;exact Below.setRow g (by omega) _
def js (s:Fs) (k:Nat):Int×Fs:=if vN s.fo k=true then (endE s {tx0 s with fo:=delT s.fo k},endS s {tx0 s with fo:=delT s.fo k}) else (4,s)
theorem NL (h:FsAt w gf s F a) (k:Nat) (ad:1<=k) (ae:k<4) (af:vN s.fo k=true->rN s {tx0 s with fo:=delT s.fo k}):
 Calls prog 70 #[(gf,()),k] w
  (fun e w'=>e=.returned (.int .i64 (js s k).1)/\uk w gf (js s k).2 F a w'):=by
 have H:=Lib.hid h;obtain⟨M,u⟩:=zD (js s k);rw[u.o];obtain⟨re,rs⟩:=M;have ah:=Lib.hid af;obtain⟨A,P⟩:=zA (encF s.fo);obtain⟨g,n⟩:=zA (encF tA);obtain⟨X,c,S,hc⟩:∃X c,Hid (X=if vN s.fo k=true then encF (delT s.fo k) else g)/\Hid (c=if vN s.fo k=true then (0:Int) else 4):=⟨_,_,rfl,rfl⟩;have aa:Hid (∀W,Calls prog 119 #[.agg A,k] W fun e w'=>e=.returned (.tuple #[.agg X,c])/\Below W W w'):=fun W=>by
  rw[S.o,hc.out];by_cases b:vN s.fo k=true
  .rw[ze b,ze b,P.o];exact P5 s.fo k ad ae b W
  .rw[zb b,zb b];exact P4 s.fo k ad ae A g P n (Lib.hid (by simpa using b)) W
 have aw:Hid (A.size=192):=by rw[P.o];exact uh _
 have B:Hid (g.size=192):=by rw[n.o];exact uh _
 have d:Hid (X.size=192):=by rw[S.o];split;exact uh _;exact B.o
 have v:Hid (X.all (·.oneCell')=true):=by rw[S.o];split;exact nw _;rw[n.o];exact nw _
 have HZ:Hid (∀w,(zeroValue 95).run prog w=.ok (.agg g) w):=by rw[n.o];exact forZ
 obtain⟨⟨gl,rv,nv,bt,bh,E,tl,FD,h1,_⟩,_⟩:=h;obtain⟨R,HR⟩:=zD (fsR (.pointer (some a)) (gl,()) s.fo rv nv (.map (some bt)) (.map (some bh)));have ai:Hid (∀j,j<A.size->R[2+j]?=A[j]?):=by rw[P.o,<-HR.o];exact iM _ _ _ _ _ _ _
 rw[HR.o]at h1;have K:=Lib.hid h1;clear h1 af;go_enter func70,ntmps70;go_wp2_with (refine pR (by kernel_rfl) 95 (.tmp 11) rfl gf 2 rfl 101 R A (0,0) _ K.o ai.o forT rfl (by rw[aw.o];exact forI) ?_)
 refine (aa.o w).mono ?_;rintro e p ⟨rfl,l⟩;have m:Hid (Below w w ((p.alloc (.cells g 95)).setRow p X)):=Below.setRow (l.alloc l.size _) l.size _;have L:Hid (((p.alloc (.cells g 95)).setRow p X).heap[p.heap.size]?=some (.cells X 95)):=yi _ _ _ _ _ _ (zH);clear l;by_cases b:vN s.fo k=true;case neg=>
  have x:=u.o;unfold js at x;rw[zb b]at x;injection x with m1 m2;subst m1 m2;obtain rfl:c=4:=by rw[hc.out,zb b]
  clear b;go_wp2_with (first
   | (refine om rfl 95 rfl g HZ.o ?_)
   | (refine yD rfl 95 (.tmp 5) (.tmp 15) rfl p X rfl rfl 95 g (zH) (by rw[d.o];exact forI) (by rw[B.o,d.o]) v.o ?_))
  go_ret;exact⟨rfl,uk.same H.o m.o⟩
 obtain rfl:c=0:=by rw[hc.out,ze b]
 have aq:Hid (X=encF (delT s.fo k)):=by show _=_;rw[S.o,ze b]
 have r:=Lib.hid (ah.o b);obtain⟨XT,y⟩:∃z:Tx,Hid ({tx0 s with fo:=delT s.fo k}=z):=⟨_,Lib.hid rfl⟩;rw[y.o]at r;have x:=u.o;unfold js at x;rw[ze b,y.o]at x;injection x with m1 m2;subst m1 m2;clear b
 go_upto_region 4 with (first
  | (refine om rfl 95 rfl g HZ.o ?_)
  | (refine yD rfl 95 (.tmp 5) (.tmp 15) rfl p X rfl rfl 95 g (zH) (by rw[d.o];exact forI) (by rw[B.o,d.o]) v.o ?_))
 obtain⟨g5,Y⟩:=zD p.heap.size;rw[Y.o]at m L ⊢;generalize (p.alloc (.cells g 95)).setRow g5 X=w3 at *
 have N:=Lib.hid (H.o.below m.o);have ag:=Lib.hid (oh N.o);go_wp2_with fail
 refine ag.o.mono ?_;rintro e J ⟨q,T,rfl,D,hT⟩;have ap:=Lib.hid D;have O:=Lib.hid hT;obtain⟨t,gn,cn,V,gp,gv,E4,pl,hl⟩:=hT.lies;have ab:=Lib.hid hl;obtain⟨Q,U⟩:=zD (txR (gf,()) s.fo t (.slice (some ⟨gn,0,none⟩) 32 cn) (.map (some V)) (.map (some gp)) gv false 256);have I:Hid (J.heap[q]?=some (.cells Q 150)):=by show _=_;rw[<-U.o];exact hl.row
 have ax:Hid (Q.size=200):=by rw[<-U.o];exact qY _ _ _ _ _ _ _ _ _
 obtain⟨C,G⟩:=zD (txR (gf,()) (delT s.fo k) t (.slice (some ⟨gn,0,none⟩) 32 cn) (.map (some V)) (.map (some gp)) gv false 256);have ak:Hid ((Q.toList.take 1++X.toList++Q.toList.drop (1+X.size)).toArray=C):=by rw[<-U.o,aq.o,<-G.o];exact Ja _ _ _ _ _ _ _ _ _ _
 have Z:Hid (J.heap[g5]?=some (.cells X 95)):=we D L.o;clear D hT hl
 go_upto_region 6 with (first
  | (refine yQ rfl 95 (.tmp 5) rfl g5 rfl 95 X (0,0) _ Z.o forT rfl (by rw[d.o];exact forI) ?_)
  | (refine jr rfl 95 (.tmp 25) (.tmp 23) rfl q 1 X rfl rfl 150 Q C I.o (by rw[d.o];exact forI) (by rw[d.o,ax.o];omega) v.o ak.o ?_))
 have f:(J.setRow q C).heap[q]?=some (.cells C 150):=yi _ _ _ _ _ _ I.o;have hd:=ab.o.putHas O.o (delT s.fo k) (yK.setRow (F:=fun i=>i=q) rfl C) (show (J.setRow q C).heap[q]?=some (.cells (txR (gf,()) (delT s.fo k) t (.slice (some ⟨gn,0,none⟩) 32 cn) (.map (some V)) (.map (some gp)) gv false 256) 150) by rw[G.o];exact f);have ac:=Lib.hid (hd.old ap.o O.o);obtain⟨T5,t5,_⟩:=hd;have am:=Lib.hid (mq N.o ac.o (by rw[<-y.o];exact t5) r.o);generalize J.setRow q C=w5 at *
 clear f t5;go_wp2_with fail
 refine am.o.mono ?_;rintro e w6 ⟨rfl,h6⟩;have H6:=Lib.hid (h6.after m.o);clear h6;go_wp2;go_ret;exact⟨rfl,H6.o⟩
theorem Sg (b:Value) (fo:Fo) (rv c d e gv:Value) (a:Bool) (fake:Int) (u:Value):(txR b fo rv c d e gv a fake).setIfInBounds 193 u=txR b fo u c d e gv a fake:=by
 rw[Z3 _ _ _ _ _ _ _ _ _ 193 (by omega) u (by omega)];unfold txR
 congr 1
 funext j
 unfold pL;by_cases h:j.val=193
 .simp[h]
 .simp[h]
theorem uP.putRows {w':World} {B:Nat} {T:Nat->Prop} {gt:Nat} {fp:Value} {x:Tx} {rv:Value} {gn cn gd gp:Nat} {gv:Value} {E:List Nd} {pl:List (Int×Value)} (h:uP w B F T gt fp x rv gn cn gd gp gv E pl) (n:TxAt w B F gt fp x T) (o:Value) (l:List (Int×Int)) (q:l.length<=20)
 (p:yK (fun i=>i=gt) w w') (r:w'.heap[gt]?=some (.cells (txR fp x.fo o (.slice (some ⟨gn,0,none⟩) 32 cn) (.map (some gd)) (.map (some gp)) gv x.full x.fake) 150)) (s:Out (fun i=>F i\/T i) w' (fun w2=>xT w2 o 2 l.length (wT l))):vS B F gt fp {x with rows:=l} T w w':=by
 have d:yK T w w':=p.mono fun i _ c=>by rw[c];exact n.self
 have e:∀b,b<w.heap.size->b≠gt->w'.heap[b]?=w.heap[b]? :=fun b k j=>p.block b k j;refine⟨T,uP.at (x:={x with rows:=l}) (rv:=o) (gn:=gn) (cn:=cn) (gd:=gd) (gp:=gp) (gv:=gv) (E:=E) (pl:=pl) ⟨r,s,?_,qQ h.nds d (fun _ c=>zt c),?_,?_,?_,h.ne,?_,h.tn,h.td,h.tp,h.tg⟩ n.self n.len (fun i c=>zm (n.fin i c) p.size) n.new n.gone n.put n.dirty q n.fake,fun _ c=>zt c,d,fun _ c=>c⟩
 .exact uV h.own fun b a=>e b (h.own.lt b a).2 (rt h.own h.row (by decide) b a)
 .exact h.dirt.of_block (e gd h.dirt.lt (yF (tG h.row h.dirt)))
 .exact h.puts.of_block (e gp h.puts.lt (yF (tG h.row h.puts)))
 .exact h.secs.keep fun g m _ f=>e g (xL f) (tj f h.row (by decide))
 .exact uV h.gone fun b a=>e b (h.gone.lt b a).2 (rt h.gone h.row (by decide) b a)
def pF (s:Fs) (u lim:Int):Int×Fs:=if pi s.rows u lim=true then (6,s) else (endE s {tx0 s with rows:=setQ s.rows u lim},endS s {tx0 s with rows:=setQ s.rows u lim})
theorem Lk (h:FsAt w gf s F a) (u lim:Int) (hq:okQ s.rows=true) (hu:0<=u/\u<=255) (hm: -1<=lim/\lim<=256) (aa:pi s.rows u lim=false->(setQ s.rows u lim).length<=20/\rN s {tx0 s with rows:=setQ s.rows u lim}):
 Calls prog 68 #[(gf,()),u,lim] w
  (fun e w'=>e=.returned (.int .i64 (pF s u lim).1)/\uk w gf (pF s u lim).2 F a w'):=by
 have H:=Lib.hid h;obtain⟨M,k⟩:=zD (pF s u lim);rw[k.o];obtain⟨re,rs⟩:=M;have V:=Lib.hid aa;have J:=Lib.hid h.fin;obtain⟨⟨gl,rv,nv,bt,bh,E,tl,FD,h1,h2,h3,h4,h5,O,h7,_⟩,_,_,_,_,_,_,A⟩:=h;obtain⟨_,_,ae,_,_,_⟩:=nu h1;have Y:=Lib.hid (Uy rv s.rows u lim w h7.now A hq hu.1 hu.2 hm.1 hm.2);clear h1 h2 h3 h4 h5 O h7 aa;go_enter func68,ntmps68;go_wp2_with fail
 refine Y.o.mono ?_;rintro e w1 ⟨Z,Q,g⟩;have K:=Lib.hid g;by_cases r:pi s.rows u lim=true
 .have he:=Z r;subst he;have m:=k.o;unfold pF at m;rw[ze r]at m;injection m with X m2;subst X m2;clear Z Q g r;go_wp2;go_ret;exact⟨rfl,uk.same H.o K.o⟩
 have l:pi s.rows u lim=false:=by simpa using r
 obtain⟨v,rfl,P⟩:=Q l;obtain⟨t,y,R,_⟩:=tR P;subst R;obtain⟨XT,q⟩:∃z:Tx,Hid ({tx0 s with rows:=setQ s.rows u lim}=z):=⟨_,Lib.hid rfl⟩;have m:=k.o;unfold pF at m;rw[zb r,q.o]at m;injection m with X m2;subst X m2;have d:=Lib.hid (V.o l);rw[q.o]at d;have N:=Lib.hid P;have D:=Lib.hid (H.o.below g);have U:=Lib.hid (oh D.o);clear Z Q g r l P;go_wp2_with fail
 refine U.o.mono ?_;rintro e G ⟨f,T,rfl,c,j⟩;have aw:=Lib.hid c;have a0:=Lib.hid j;obtain⟨aj,gn,cn,gd,gp,gv,E4,pl,x⟩:=j.lies;have am:=Lib.hid x;have ac:=(sZ x.row).2.1;have ad:G.frozen? (f,193)=false:=zF x.row;have n:yK (fun i=>i=f) G (G.setCell (f,193) (.slice t (setQ s.rows u lim).length y)):=yK.setCell (F:=fun i=>i=f) (p:=⟨f,193,none⟩) rfl _;have I:(G.setCell (f,193) (.slice t (setQ s.rows u lim).length y)).heap[f]?=some (.cells (txR (gf,()) (tx0 s).fo (.slice t (setQ s.rows u lim).length y) (.slice (some ⟨gn,0,none⟩) 32 cn) (.map (some gd)) (.map (some gp)) gv (tx0 s).full (tx0 s).fake) 150):=by rw[<-Sg];exact zX _ _ 193 _ _ _ x.row
 have B:Out (fun i=>F i\/T i) (G.setCell (f,193) (.slice t (setQ s.rows u lim).length y)) (fun w2=>xT w2 (.slice t (setQ s.rows u lim).length y) 2 (setQ s.rows u lim).length (wT (setQ s.rows u lim))):=by
  have ar:=j.new f j.self;refine fY (xT.of_owns (uV (th N.o c) fun b L=>n.block b (zm (N.o.lt b L).2 c.size) fun hc=>?_)) fun b L _ C=>?_
  .have:=(N.o.lt b L).2;omega
  .have h1:=N.o.lt b L;rcases C with C|C
   .have:=J.o b C;omega
   .have:=j.new b C;omega
 have hd:=x.putRows j (.slice t (setQ s.rows u lim).length y) (setQ s.rows u lim) d.o.1 n I B;have S:=Lib.hid (hd.old c j);obtain⟨T5,t5,_⟩:=hd;have W:=Lib.hid (mq D.o S.o (by rw[<-q.o];exact t5) d.o.2);clear n I B t5 c j x;go_wp2_with fail
 refine W.o.mono ?_;rintro e w6 ⟨rfl,O⟩;have H6:=Lib.hid (O.after K.o);clear O;go_wp2;go_ret;exact⟨rfl,H6.o⟩
theorem Mt (w:World) (E g6 g7:Nat) (k m I J s l H u g:Int) (v:Value) (G:w.heap[E]?=some (.cells #[k,m,I,J,s,l,H,v] 59))
 (L:w.cell? (g6,0)=some (.int .i64 u)) (M:w.cell? (g7,0)=some (.int .i64 g)) (K:g6≠E/\g7≠E):
 Calls prog 116 #[(E,()),(g6,()),(g7,())] w
  (fun e w'=>e=.returned (.tuple #[])/\yK (fun i=>i=E) w w'/\w'.heap[E]?=some (.cells #[k,m,u,g,s,l,H,v] 59)):=by
 have c:=Lib.hid G;obtain⟨z,q,D,n,t,A,r,y⟩:=uI G;have x:w.frozen? (E,2)=false:=zF G;have C:w.frozen? (E,3)=false:=zF G;obtain⟨d,f⟩:=K;have j:¬E=g6:=fun h=>d h.symm;have B:¬E=g7:=fun h=>f h.symm;clear G;go_enter func116,ntmps116
 go_region
 all_goals
  go_wp2;refine⟨rfl,.tuple #[],(by simp[results,results116,go_sem]),?_⟩;have b:yK (fun i=>i=E) w ((w.setCell (E,2) (.int .i64 u)).setCell (E,3) (.int .i64 g)):=(yK.setCell (F:=fun i=>i=E) (p:=⟨E,2,none⟩) rfl _).step (yK.setCell (F:=fun i=>i=E) (p:=⟨E,3,none⟩) rfl _);have a:=lw (xW ((w.setCell (E,2) (.int .i64 u)).setCell (E,3) (.int .i64 g)).heap.size ((w.setCell (E,2) (.int .i64 u)).setCell (E,3) (.int .i64 g))) 1;exact⟨rfl,b.step (yK.of_below a),we a (zX _ _ 3 _ _ _ (zX _ _ 2 _ _ _ c.o))⟩
def chgP (N:Pn) (u g:Int):Pn:={N with u:=u,g:=g}
def ownM (s:Fs) (i:Nat) (u g:Int):Int×Fs:=
 let N:=s.nodes.getD i zN
 if N.k=0 then (4,s) else (endE s ((tx0 s).setX i (chgP N u g)),endS s ((tx0 s).setX i (chgP N u g)))
theorem NI (h:FsAt w gf s F a) (i:Nat) (hi:i<32) (g6 g7:Nat) (u g:Int) (h6:w.cell? (g6,0)=some (.int .i64 u)) (h7:w.cell? (g7,0)=some (.int .i64 g)) (ao:g6<w.heap.size/\g7<w.heap.size)
 (ab:(s.nodes.getD i zN).k≠0->rN s ((tx0 s).setX i (chgP (s.nodes.getD i zN) u g))):
 Calls prog 115 #[(gf,()),.int .i64 ((i:Int)+1),.func (.func 116) #[] #[(g6,()),(g7,())]] w
  (fun e w'=>e=.returned (.int .i64 (ownM s i u g).1)/\uk w gf (ownM s i u g).2 F a w'):=by
 have H:=Lib.hid h;obtain⟨X,HN⟩:=zD (s.nodes.getD i zN);have v:s.nodes[i]?=some X:=by rw[<-HN.o];exact mu (by rw[h.len];exact hi)
 have r:=Lib.hid (gX h i hi X v);unfold ownM;rw[HN.o]at ab ⊢;by_cases B:X.k=0
 .rw[ze B];rw[show decide (X.k≠0)=false by simp[B]]at r;clear h h6 h7 ab v B;go_enter func115,ntmps115;go_wp2_with fail
  refine r.o.mono ?_;rintro e A ⟨rfl,rfl⟩;go_wp2;go_ret;exact⟨rfl,uk.same H.o zB⟩
 rw[zb B];rw[show decide (X.k≠0)=true by simp[B]]at r;have z:=Lib.hid (ab B);have aa:=Lib.hid (oh h);have ag:=Lib.hid (fun (W:World) (V:Nat) (T:Nat->Prop) (J:TxAt W w F V (gf,()) (tx0 s) T)=>mp J i hi X v);have aj:=Lib.hid h.fin;obtain⟨XT,P⟩:=zD ((tx0 s).setX i (chgP X u g));rw[P.o]at z ⊢;have Y:=Lib.hid h6;have H7:=Lib.hid h7;have j:=Lib.hid ao;clear h h6 h7 ab v B ao;go_enter func115,ntmps115;go_wp2_with fail
 refine r.o.mono ?_;rintro e A ⟨rfl,rfl⟩;go_wp2_with fail
 refine aa.o.mono ?_;rintro e A ⟨V,T,rfl,S,J⟩;have b:=Lib.hid S;have ah:=Lib.hid J;have G:=Lib.hid (ag.o A V T J);clear S J;go_wp2_with fail
 refine G.o.mono ?_;rintro e x ⟨q,n,c,rfl,D,N⟩;have d:=Lib.hid N;have Z:=Lib.hid D;clear N D;obtain⟨gb,t⟩:=zD x.heap.size;have O:Hid (A.heap.size<=gb):=by show _;rw[<-t.o];exact d.o.size
 have E:Hid (Below A A (x.alloc (.cells #[X.k,X.m,X.u,X.g,X.s,X.l,X.up,(q,n,c)] 59))):=d.o.alloc d.o.size _;have ac:Hid ((x.alloc (.cells #[X.k,X.m,X.u,X.g,X.s,X.l,X.up,(q,n,c)] 59)).heap[gb]?=some (.cells #[X.k,X.m,X.u,X.g,X.s,X.l,X.up,(q,n,c)] 59)):=by rw[<-t.o];exact zH
 have y:Hid (Below x x (x.alloc (.cells #[X.k,X.m,X.u,X.g,X.s,X.l,X.up,(q,n,c)] 59))):=zB.alloc zL _;have ax:w.heap.size<=A.heap.size:=b.o.size;have R:=((b.o.trans (E.o.mono b.o.size)).cell (p:=⟨g6,0,none⟩) j.o.1).trans Y.o;have M:=((b.o.trans (E.o.mono b.o.size)).cell (p:=⟨g7,0,none⟩) j.o.2).trans H7.o;have af:=Lib.hid (Mt _ gb g6 g7 X.k X.m X.u X.g X.s X.l X.up u g (q,n,c) ac.o R M ⟨by have:=O.o;have:=j.o.1;omega,by have:=O.o;have:=j.o.2;omega⟩);clear R M
 go_upto_region 5 with fail
 rw[t.o];generalize x.alloc (.cells #[X.k,X.m,X.u,X.g,X.s,X.l,X.up,(q,n,c)] 59)=w3 at *
 go_wp2_with fail
 refine af.o.mono ?_;rintro e U ⟨rfl,L,C⟩;have f:Hid (Below x x U):=y.o.trans (L.to_below (fun i hi=>by rw[hi];exact vM t.o) y.o.size);have Q:Hid (TxAt U w F V (gf,()) (tx0 s) T):=(ah.o.below d.o).below f.o;have I:Hid (jb (fun i=>F i\/T i) (chgP X u g) U q n c):=Z.o.below f.o;have K:Hid (Below w w U):=b.o.trans ((Below.step d.o f.o).mono b.o.size);have ae:=Lib.hid (lI Q.o i hi (chgP X u g) q n c I.o (by show (0:Nat)<900;omega));obtain⟨r0,r1,r2,r3,r4,r5,r6,r7⟩:=uI C;clear L C;go_wp2_with fail
 refine ae.o.mono ?_;rintro e w5 ⟨rfl,d5⟩;have ai:=Lib.hid (d5.old K.o Q.o);obtain⟨T5,t5,_⟩:=d5;have ad:=Lib.hid (mq H.o ai.o (by rw[<-P.o];exact t5) z.o);clear t5 r0 r1 r2 r3 r4 r5 r6 r7;go_wp2_with fail
 refine ad.o.mono ?_;rintro e w6 ⟨rfl,h6⟩;have Y:=Lib.hid h6;clear h6;go_wp2;go_ret;exact⟨rfl,Y.o⟩
theorem NJ (w:World) (v:Value):
 Calls prog 115 #[(gf,()),(),v] w (fun e w'=>e=.returned (4:Int)/\w=w'):=by
 have a:=Lib.hid (VH (gf,()) w);go_enter func115,ntmps115;go_wp2_with fail
 refine a.o.mono ?_;rintro e b ⟨rfl,rfl⟩;go_wp2;go_ret;simp
theorem JN (w:World) (u g:Int):((w.alloc (.cells #[u] 3)).alloc (.cells #[g] 3)).cell? (w.heap.size,0)=some (.int .i64 u)/\((w.alloc (.cells #[u] 3)).alloc (.cells #[g] 3)).cell? (w.heap.size+1,0)=some (.int .i64 g):=
 ⟨by rw[zC (vG w _ _)];rfl,by rw[zC (vg w _ _)];rfl⟩
theorem Ll (h:FsAt w gf s F a) (i:Nat) (z:i<32) (u g:Int) (x:0<=u/\u<=255) (y:0<=g/\g<=255)
 (v:(s.nodes.getD i zN).k≠0->rN s ((tx0 s).setX i (chgP (s.nodes.getD i zN) u g))):
 Calls prog 67 #[(gf,()),.int .i64 ((i:Int)+1),u,g] w
  (fun e w'=>e=.returned (.int .i64 (ownM s i u g).1)/\uk w gf (ownM s i u g).2 F a w'):=by
 have m:Hid (Below w w ((w.alloc (.cells #[u] 3)).alloc (.cells #[g] 3))):=(zB.alloc zL _).alloc (by simp) _;obtain⟨c,j⟩:=JN w u g;have l:=Lib.hid (NI (h.below m.o) i z w (w.heap.size+1) u g c j ⟨by simp;omega,by simp⟩ v);have b:=Lib.hid (kG u g x y);obtain⟨M,f⟩:∃M,ownM s i u g=M:=⟨_,rfl⟩;rw[f]at l ⊢;obtain⟨r,p⟩:=M;clear f;clear h v x y;go_enter func67,ntmps67;go_wp2_with fail
 refine (b.o _).mono ?_;rintro e q ⟨rfl,rfl⟩;go_wp2_with fail
 refine l.o.mono ?_;rintro e t ⟨rfl,d⟩;have n:=Lib.hid (d.after m.o);clear d c j;go_wp2;go_ret;exact⟨rfl,n.o⟩
theorem Lm (w:World) (u g:Int) (j:0<=u/\u<=255) (k:0<=g/\g<=255):
 Calls prog 67 #[(gf,()),(),u,g] w (fun e w'=>e=.returned (4:Int)/\Below w w w'):=by
 have f:Hid (Below w w ((w.alloc (.cells #[u] 3)).alloc (.cells #[g] 3))):=(zB.alloc zL _).alloc (by simp) _;obtain⟨b,c⟩:=JN w u g;have d:=Lib.hid (fun v=>NJ (gf:=gf) ((w.alloc (.cells #[u] 3)).alloc (.cells #[g] 3)) v);have a:=Lib.hid (kG u g j k);clear j k;go_enter func67,ntmps67;go_wp2_with fail
 refine (a.o _).mono ?_;rintro e h ⟨rfl,rfl⟩;go_wp2_with fail
 refine (d.o _).mono ?_;rintro e i ⟨rfl,rfl⟩;clear b c;go_wp2;go_ret;exact⟨rfl,f.o⟩
def cutB (D:List Int) (sz:Nat):List Int:=(List.range sz).map fun q=>D.getD q 0
section
variable {x : Tx} {s : Fs} {n c i : Nat} {A : Nat->AN} {T : List Nat} {δ : Nat->Int}
theorem TI.reGone (h:TI x s T) {g:List Int} (q:∀p,p≠0->(p∈g↔p∈x.gone)):TI {x with gone:=g} s T:=by
 obtain⟨⟨o,c⟩,d,e,k,n,j,l⟩:=h;refine⟨⟨o,{c with gn:=fun p a f=>c.gn p ((q p f).1 a) f,sl:=fun p i b a=>?_}⟩,d,e,k,n,j,l⟩;rcases c.sl p i b a with h|⟨m,d,e⟩
 .exact zt h
 .have:=c.lt a;exact zu ⟨m,d,(q p (by omega)).2 e⟩
theorem Uv (l:List Int) (p:Int):p∈srtI l↔p∈l:=(tT _ _).mem_iff
theorem PR (P:List Int) (K:Nat) (p:Int) (a:p≠0):p∈srtI (tU P K)↔p∈([]++(P.drop K).reverse:List Int):=by rw[Uv];unfold tU nzF;simp[a]
theorem Tz (i:Nat) (e:i<32) (f:s.nodes.length=32) (sz:Nat):
 cutT s i (s.nodes.getD i zN) (sz:Int)={((tx0 s).cutX i (blkN sz) sz).uw i (if (sp (s.nodes.getD i zN).P (blkN sz) (s.nodes.getD i zN).s sz).toNat=0 then ((tx0 s).cutX i (blkN sz) sz).uy i else
  wrU s.k (((tx0 s).cutX i (blkN sz) sz).uy i) (blkN sz-1) ((blk ((tx0 s).cutX i (blkN sz) sz) s i (blkN sz-1)).take (sp (s.nodes.getD i zN).P (blkN sz) (s.nodes.getD i zN).s sz).toNat++List.replicate (64-(sp (s.nodes.getD i zN).P (blkN sz) (s.nodes.getD i zN).s sz).toNat) 0)) with gone:=srtI (tU (s.nodes.getD i zN).P (blkN sz))}:=by
 have a:(tx0 s).nodes=s.nodes:=rfl;have c:((tx0 s).cutX i (blkN sz) sz).uy i=⟨(tx0 s).ow,[],resP (s.nodes.getD i zN).P (blkN sz)⟩:=by unfold Tx.uy Tx.cutX resP;simp only[a,rp,f,e,uv,vl];rfl
 have d:blk ((tx0 s).cutX i (blkN sz) sz) s i (blkN sz-1)=sB (tx0 s) s (resP (s.nodes.getD i zN).P (blkN sz)) (blkN sz-1):=by
  have b:((tx0 s).cutX i (blkN sz) sz).pf i (blkN sz-1)=(resP (s.nodes.getD i zN).P (blkN sz)).getD (blkN sz-1) 0:=by unfold Tx.pf;rw[ze e];unfold Tx.cutX resP;simp only[a,rp,f,e,uv,vl]
  unfold blk sB tE;rw[b];rfl
 rw[c,d];unfold cutT cutY Tx.uw Tx.cutX;simp only[a,rp,f,e,uv,vl,rI];rfl
theorem SI.cut (
 hs:SI s c A) (g:GI A fun _=>0) (hc:c<=1000) (hi:i<32) (hk:(A i).k=1) {sz:Nat} (hz:sz<=512):
 j7 s i sz/\TV (cutT s i (s.nodes.getD i zN) (sz:Int)) s 8 [i] (upA A i {A i with s:=((cutB (A i).D sz).length:Int),D:=cutB (A i).D sz})/\GI (upA A i {A i with s:=((cutB (A i).D sz).length:Int),D:=cutB (A i).D sz}) fun _=>0:=by
 have m:=hs.tv [i];have O:s.nodes.length=32:=m.ti.len;have h8:=fld8 (m.ti.nd i hi);have o:(cutB (A i).D sz).length=sz:=by unfold cutB;rw[yw,sF]
 have t:(blkN (sz:Int):Int)=tX (sz:Int):=by unfold blkN tX;split<;>omega
 have hK:blkN (sz:Int)<=8:=by unfold tX at t;split at t<;>omega
 have ar:sz<=64*blkN (sz:Int)/\64*blkN (sz:Int)<sz+64:=by unfold tX at t;split at t<;>omega
 have B:=m.ti.cutX hi (blkN sz) (sz:Int) (by omega) t (m.ne hi (by rw[hk];decide));have R:=Vg m.ti.len hi (blkN sz) (sz:Int);have hn:(tx0 s).nodes=s.nodes:=rfl;have hP:((((tx0 s).cutX i (blkN sz) sz).nodes.getD i zN).P).length=blkN sz:=by unfold Tx.cutX;simp only[hn,rp,O,hi,uv,vl,zl,zi,zR];omega
 have H:∀p,p≠0->(p∈srtI (tU (s.nodes.getD i zN).P (blkN sz))↔p∈((tx0 s).cutX i (blkN sz) sz).gone):=fun p h=>PR _ _ p h;have ae:(srtI (tU (s.nodes.getD i zN).P (blkN sz))).length<=8:=by have I:(srtI (tU (s.nodes.getD i zN).P (blkN sz))).length=(tU (s.nodes.getD i zN).P (blkN sz)).length:=(tT _ _).length_eq;have J:(tU (s.nodes.getD i zN).P (blkN sz)).length<=((s.nodes.getD i zN).P.drop (blkN sz)).reverse.length:=vd _ _;rw[ug,yx]at J;have:(s.nodes.getD i zN).P.length<=8:=h8;omega
 have F:∀j b,j<32->blk ((tx0 s).cutX i (blkN sz) sz) s j b=if j=i/\blkN sz<=b then List.replicate 64 0 else blk (tx0 s) s j b:=fun j b d=>by
  unfold blk;rw[R];simp only;by_cases hc:j=i/\blkN (sz:Int)<=b
  .rw[ze hc,ze hc];rfl
  .rw[zb hc,zb hc];rfl
 have ay:(s.nodes.getD i zN).s=(A i).s:=(hs.A_at hi).2.2.2.2.1
 -- what stands behind it, block by block
 have X:∃y:Tx,cutT s i (s.nodes.getD i zN) (sz:Int)={y with gone:=srtI (tU (s.nodes.getD i zN).P (blkN sz))}/\y.gone=((tx0 s).cutX i (blkN sz) sz).gone/\TI y s [i]/\y.rows=s.rows/\256<=y.fake/\y.fake<=264/\y.put.length<=8/\y.dirty.length<=1 /\
  (∃P,y.nodes=s.nodes.set i {s.nodes.getD i zN with P:=P,s:=(sz:Int)})/\∀j b,j<32->∀r,r<64->(blk y s j b)[r]?=if j=i/\sz<=64*b+r then some 0 else (blk (tx0 s) s j b)[r]? :=by
  have E:∀P,(((tx0 s).cutX i (blkN sz) sz).nodes.set i {((tx0 s).cutX i (blkN sz) sz).nodes.getD i zN with P:=P})=s.nodes.set i {s.nodes.getD i zN with P:=P,s:=(sz:Int)}:=fun P=>by unfold Tx.cutX;simp only[hn,rp,O,hi,uv,vl,rI]
  have S:∀b r:Nat,r<64->(s.nodes.getD i zN).s<=((64*b+r:Nat):Int)->(blk (tx0 s) s i b)[r]?=some 0:=fun b r n f=>m.z i hi b r n f;rw[Tz i hi O sz];split
  .rename_i h;refine⟨_,rfl,rfl,by rw[fX _ _ B.len hi];exact B,rfl,wO _,by show (256:Int)<=264;omega,ye _,zL,⟨_,E _⟩,fun j b d r n=>?_⟩;rw[fX _ _ B.len hi,F j b d];by_cases a:j=i
   .subst a;by_cases G:blkN (sz:Int)<=b
    .rw[ze ⟨rfl,G⟩,ze ⟨rfl,by omega⟩,yY,ze n]
    .rw[zb (by omega)];by_cases f:sz<=64*b+r
     .rw[ze ⟨rfl,f⟩];have w:b=blkN (sz:Int)-1:=(by omega);unfold sp at h;split at h
      .rename_i I;omega
      .rename_i I;by_cases J:(sz:Int)<(s.nodes.getD j zN).s
       .have h3:(resP (s.nodes.getD j zN).P (blkN sz)).getD (blkN sz-1) 0=0:=by
         by_cases h4:(resP (s.nodes.getD j zN).P (blkN sz)).getD (blkN sz-1) 0=0
         .exact h4
         .exact yb ⟨J,by omega,h4⟩ I
        unfold resP at h3;rw[Xd,zb (by omega)]at h3;have h5:(tx0 s).pf j b=0:=(by unfold Tx.pf;rw[ze d,w];exact h3);unfold blk tE;rw[h5,ze rfl,yY,ze n]
       .exact S b r n (by omega)
     .rw[zb (by omega)]
   .rw[zb (by omega),zb (by omega)]
  .rename_i h;have K:(sp (s.nodes.getD i zN).P (blkN sz) (s.nodes.getD i zN).s sz).toNat=sz%64/\0<sz%64:=by
    unfold sp at h ⊢;split
    .rename_i I;omega
    .rename_i I;rw[zb I]at h;exact yb rfl h
   rw[K.1];have L:=B.blk_ok hs.sec hi (blkN (sz:Int)-1);have Z:((blk ((tx0 s).cutX i (blkN sz) sz) s i (blkN sz-1)).take (sz%64)++List.replicate (64-sz%64) 0).length=64:=(by rw[zl,zi,zR,L.1];omega);have U:ue ((blk ((tx0 s).cutX i (blkN sz) sz) s i (blkN sz-1)).take (sz%64)++List.replicate (64-sz%64) 0):=fun v N=>by
    rcases yv.1 N with N|N
    .exact L.2 v (xd N)
    .exact VY _ v N
   have M:=B;rw[<-fX _ _ B.len hi]at M;have al:(((tx0 s).cutX i (blkN sz) sz).uy i).P.length=blkN sz:=hP;obtain⟨Q,b2,b3,b4,b5,T,b7⟩:=M.wr B.len hi (by simp) (by omega) (b:=blkN (sz:Int)-1) (by omega) ⟨Z,U⟩;refine⟨_,rfl,rfl,Q,rfl,wN (wO 256) b4,wN b5 (by show (256:Int)+1<=264;omega),zr T (by show 0+1<=8;omega),zL,⟨_,E _⟩,fun j b d r n=>?_⟩;rw[b2 j b d,fX _ _ B.len hi,F j b d];by_cases a:j=i
   .subst a;by_cases w:b=blkN (sz:Int)-1
    .rw[ze ⟨rfl,w⟩,F j _ d,zb (by omega),<-w];have ax:=(m.ti.blk_ok hs.sec d b).1;by_cases f:sz<=64*b+r
     .rw[ze ⟨rfl,f⟩,zx (by rw[zi];omega),yY,ze (by rw[zi];omega)]
     .rw[zb (by omega),zO (by rw[zi];omega),wM (by omega)]
    .rw[zb (by omega)];by_cases G:blkN (sz:Int)<=b
     .rw[ze ⟨rfl,G⟩,ze ⟨rfl,by omega⟩,yY,ze n]
     .rw[zb (by omega),zb (by omega)]
   .rw[zb (by omega),zb (by omega),zb (by omega)]
 obtain⟨y,C,W,yt,yr,y1,y2,y3,y4,⟨P,yn⟩,V⟩:=X;have ac:∀j,y.nodes.getD j zN=if j=i then {s.nodes.getD i zN with P:=P,s:=(sz:Int)} else s.nodes.getD j zN:=fun j=>by rw[yn,rp,O];grind
 have K:=yt.reGone (g:=srtI (tU (s.nodes.getD i zN).P (blkN sz))) fun p h=>by rw[W];exact H p h
 rw[<-C]at K;have u:∀j b,blk (cutT s i (s.nodes.getD i zN) (sz:Int)) s j b=blk y s j b:=fun j b=>by rw[C];rfl
 have e:∀j,(cutT s i (s.nodes.getD i zN) (sz:Int)).nodes.getD j zN=if j=i then {s.nodes.getD i zN with P:=P,s:=(sz:Int)} else s.nodes.getD j zN:=fun j=>by rw[C];exact ac j
 have tv:TV (cutT s i (s.nodes.getD i zN) (sz:Int)) s 8 [i] (upA A i {A i with s:=((cutB (A i).D sz).length:Int),D:=cutB (A i).D sz}):=by
  refine⟨K,⟨⟨by rw[C];exact y1,by rw[C];exact y2⟩,by rw[C];exact ae,by rw[C];exact y3,by rw[C];show 8*y.dirty.length<=8;omega⟩,fun j d=>?_,fun j d b r n f=>?_⟩
  .unfold upA;by_cases a:j=i
   .subst a;rw[ze rfl];have Y:(cutT s j (s.nodes.getD j zN) (sz:Int)).dirD s j=cutB (A j).D sz:=(by refine ZQ K hs.sec d (by rw[e,ze rfl,o]) fun q f=>?_;rw[o]at f;rw[u,V j _ d _ (rH _ (by omega)),show 64*(q / 64)+q%64=q by omega,zb (by omega),m.byteD hs.sec d q];unfold cutB;rw[xy,vo f];rfl);unfold vw;rw[Y,e,ze rfl,o];obtain⟨Q,b2,b3,b4,_,T,b7,_⟩:=hs.A_at d;simp only;rw[Q,b2,b3,b4,T,b7]
   .rw[zb a,<-m.v j d];unfold vw;rw[WH (x:=tx0 s) d (by rw[e,zb a];rfl) (by rw[e,zb a];rfl) fun b=>by
     apply xS;intro r;rw[u];by_cases n:r<64
     .rw[V j b d r n,zb (by omega)]
     .rw[yd (by rw[(yt.blk_ok hs.sec d b).1];omega),yd (by rw[(m.ti.blk_ok hs.sec d b).1];omega)],e,zb a]
    rfl
  .rw[e]at f;rw[u,V j b d r n];by_cases a:j=i
   .rw[ze a]at f;have av:(sz:Int)<=((64*b+r:Nat):Int):=f;rw[ze ⟨a,by omega⟩]
   .rw[zb a]at f;rw[zb (by omega)];exact m.z j d b r n f
 have gi:=(g.set hi {A i with s:=((cutB (A i).D sz).length:Int),D:=cutB (A i).D sz} (by show (A i).k≠0;rw[hk];decide) (by unfold uK;rw[zb (by show (A i).k≠2;rw[hk];decide),zb (by rw[hk];decide)]) (fun J=>yb (hk.symm.trans J) (by decide)) (g.pos i hi (by rw[hk];decide)) (fun h=>by subst h;exact yb (hk.symm.trans g.root) (by decide))).congr (δ':=fun _=>0) fun j _=>by
  show (0:Int)=0+if j=i then (A i).l-(A i).l else 0
  split<;>omega
 exact⟨⟨hs.pts hi,m.ti.right rfl hi,fun _=>tv.run hs hc (by omega) hs.rows⟩,tv,gi⟩
end
section
variable {x : Tx} {s : Fs} {n c i : Nat} {A : Nat->AN} {T : List Nat} {δ : Nat->Int}
theorem SI.own (x:SI s c A) (g:GI A fun _=>0) (C:c<=1000) (w:i<32) (y:(A i).k≠0) {gg:Int} (z:0<=u/\u<=255) (B:0<=gg/\gg<=255):
 rN s ((tx0 s).setX i (chgP (s.nodes.getD i zN) u gg))/\TV ((tx0 s).setX i (chgP (s.nodes.getD i zN) u gg)) s 8 [] (upA A i {A i with u:=u,g:=gg})/\GI (upA A i {A i with u:=u,g:=gg}) fun _=>0:=by
 have f:=x.tv [];have a:=f.fld w y;have b:=f.set w (N:=chgP (s.nodes.getD i zN) u gg) rfl rfl (zu ⟨⟨a.1.1,a.1.2.1,a.1.2.2.1,a.1.2.2.2.1,z.1,z.2,B.1,B.2,a.1.2.2.2.2.2.2.2.2⟩,a.2⟩);have e:(⟨(chgP (s.nodes.getD i zN) u gg).k,(chgP (s.nodes.getD i zN) u gg).m,(chgP (s.nodes.getD i zN) u gg).u,(chgP (s.nodes.getD i zN) u gg).g,(chgP (s.nodes.getD i zN) u gg).s,(chgP (s.nodes.getD i zN) u gg).l,(chgP (s.nodes.getD i zN) u gg).up,(A i).D⟩:AN)={A i with u:=u,g:=gg}:=by obtain⟨n,q,v,t,o,p,h,_⟩:=x.A_at w;unfold chgP;simp only;rw[n,q,o,p,h]
 rw[e]at b;refine⟨b.run x C (by omega) x.rows,b,(g.set w {A i with u:=u,g:=gg} y rfl (fun d=>⟨g.dir i w d,g.ok i w d⟩) (g.pos i w y) (fun r=>by subst r;exact g.root)).congr fun j _=>?_⟩;show (0:Int)=0+if j=i then (A i).l-(A i).l else 0
 split<;>omega
theorem SI.still (F:SI s c A) {fo:Fo} (E:fo.nd 0=s.fo.nd 0) (G:fo.hs 0=s.fo.hs 0) (H:∀a,1<=a->a<4->na fo a) (rows:List (Int×Int)):TV {tx0 s with fo:=fo,rows:=rows} s 0 [] A:=by
 have h:=F.tv [];obtain⟨⟨x,e⟩,m,w,C,q,B,D⟩:=h.ti;have f:({tx0 s with fo:=fo,rows:=rows}:Tx).pf=(tx0 s).pf:=by funext i b;unfold Tx.pf;rw[E];rfl
 refine⟨⟨⟨x,?_⟩,by rw[f];exact m,w,H,q,B,fun j k=>rfl⟩,⟨h.cap.fk,h.cap.g,h.cap.p,h.cap.d⟩,h.v,fun j k b r u o=>by have:=h.z j k b r u o;unfold blk at this ⊢;rw[f];exact this⟩;rw[f];refine⟨e.k1,e.fk,?_,e.blk,e.nz,e.gn,e.rg,e.sl,fun n l=>?_,e.rise,fun y t=>yb t yE,e.pd⟩
 .have:=e.root;unfold vN at this ⊢;rw[show ({tx0 s with fo:=fo,rows:=rows}:Tx).ow.fo.nd 0=(tx0 s).ow.fo.nd 0 from E];exact this
 .rw[show ({tx0 s with fo:=fo,rows:=rows}:Tx).ow.fo.hs 0=(tx0 s).ow.fo.hs 0 from G];exact e.hs n l
theorem SI.fine (h:SI s c A):∀a,a<4->na s.fo a:=fun a d=>by
 by_cases e:a=0
 .subst e;refine fine0 h.k1 fun j b=>?_;have:=(h.tv []).ti.ndPos (x:=tx0 s) b;have g:(tx0 s).fake=256:=rfl;have:=h.k1;have f:(tx0 s).fo.nd 0 j=s.fo.nd 0 j:=rfl;omega
 .exact (h.tv []).ti.fine a (by omega) d
theorem Ob (f:Fo) (k:Nat):na (delT f k) k:=by
 have a:encT (delT f k) k=encT tA 0:=by
  unfold encT
  congr 1
  funext j
  unfold uO delT;simp only[vl];rfl
 refine⟨LV fun i _=>?_,?_⟩
 .unfold delT nf;simp
 .unfold badT n9;rw[a];have:rc (encT tA 0) (encT tA 0) 0 48=true:=by kernel_rfl
  rw[this];simp
theorem SI.snap (u:SI s c A) (v:c<=1000) (t:(sU s.fo).2.2=0):rN s {tx0 s with fo:=(sU s.fo).1}/\TV {tx0 s with fo:=(sU s.fo).1} s 0 [] A:=by
 have g:=u.fine;have d:TV {tx0 s with fo:=(sU s.fo).1} s 0 [] A:=by
  unfold sU at t ⊢;split at t
  .rename_i o;rw[ze o];unfold nY at t ⊢;have e:∀k,1<=k->TV {tx0 s with fo:=putT s.fo k} s 0 [] A:=fun k f=>u.still (by unfold putT;simp only;rw[zb (by omega)]) (by unfold putT;simp only;rw[zb (by omega)]) (fun a r n=>by
    by_cases b:a=k
    .subst b;have p:=g 0 (by omega);have m:encT (putT s.fo a) a=encT s.fo 0:=by
      unfold encT
      congr 1
      funext j
      unfold uO putT;simp only[vl]
     obtain⟨l,q⟩:=p;refine⟨?_,?_⟩
     .unfold badN putT at *;simp only[vl]at *;exact l
     .unfold badT n9 vN at *
      rw[m];unfold putT;simp only[vl];exact q
    .exact W3 (by unfold putT;simp only;rw[zb b]) (by unfold putT;simp only;rw[zb b]) (g a n)) s.rows
   by_cases f:vN s.fo 1=false
   .rw[ze f];exact e 1 (by omega)
   .rw[zb f]at t ⊢;by_cases h:vN s.fo 2=false
    .rw[ze h];exact e 2 (by omega)
    .rw[zb h]at t ⊢;by_cases i:vN s.fo 3=false
     .rw[ze i];exact e 3 (by omega)
     .rw[zb i]at t;cases t
  .cases t
 exact⟨d.run u v (by omega) u.rows,d⟩
theorem SI.forget (h:SI s c A) (i:c<=1000) {k:Nat} (j:1<=k):rN s {tx0 s with fo:=delT s.fo k}/\TV {tx0 s with fo:=delT s.fo k} s 0 [] A:=by
 have e:=h.fine;have d:TV {tx0 s with fo:=delT s.fo k} s 0 [] A:=h.still (by unfold delT;simp only;rw[zb (by omega)]) (by unfold delT;simp only;rw[zb (by omega)]) (fun a g f=>by
  by_cases b:a=k
  .subst b;exact Ob _ _
  .exact W3 (by unfold delT;simp only;rw[zb b]) (by unfold delT;simp only;rw[zb b]) (e a f)) s.rows
 exact⟨d.run h i (by omega) h.rows,d⟩
theorem SI.quota (i:SI s c A) (l:c<=1000) {lim:Int} (j:0<=u/\u<=255) (k: -1<=lim/\lim<=256) (m:pi s.rows u lim=false):(setQ s.rows u lim).length<=20/\sf (setQ s.rows u lim)=0/\rN s {tx0 s with rows:=setQ s.rows u lim}/\TV {tx0 s with rows:=setQ s.rows u lim} s 0 [] A:=by
 have e:=Zj i.rows;have h:=Ux e.1 m;have f:=Ut ((iF s.rows).1 e.2) j.1 j.2 k.1 k.2;have d:sf (setQ s.rows u lim)=0:=by unfold sf;rw[zb (by omega),ze ((iF _).2 f)]
 have b:TV {tx0 s with rows:=setQ s.rows u lim} s 0 [] A:=i.still (fo:=s.fo) rfl rfl (fun a _ g=>i.fine a g) _;exact⟨h,d,b.run i l (by omega) d,b⟩
end
