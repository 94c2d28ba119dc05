import Derived.Test.YtmanoiagchpelaaGreatDoorKA35
set_option maxHeartbeats 0
set_option linter.all false
set_option maxRecDepth 100000
namespace Go.Proofs.YtmanoiagchpelaaGreatDoor
open Go.Proofs.Tryz Go.RowKit
variable {F:Nat->Prop} {a:Addr} {gf:Nat} {s:Fs} {w:World}
theorem JF (fp) (fo) (rv nv dv pv gv) (full) (fake) (g):((txR fp fo rv nv dv pv gv full fake).toList.take 1++(encF g).toList++(txR fp fo rv nv dv pv gv full fake).toList.drop (1+(encF g).size)).toArray=txR fp g rv nv dv pv gv full fake:=by
 apply xa;intro i;have c:(encF g).toList.length=192:=by simpa using uj g
 have a:(txR fp fo rv nv dv pv gv full fake).toList.length=200:=by simpa using pi fp fo rv nv dv pv gv full fake
 have f:∀j,(txR fp fo rv nv dv pv gv full fake).toList[j]?=(txR fp fo rv nv dv pv gv full fake)[j]? :=fun j=>zO;rw[xM,uj];by_cases h:i<1
 .rw[zP,zX (by rw[zj,a];omega),zI,ze h,f,qt _ _ _ _ _ _ _ _ _ _ (by omega),qt _ _ _ _ _ _ _ _ _ _ (by omega)];unfold pT;rw[ze (by omega),ze (by omega)]
 .by_cases d:i<193
  .have b:=rk g ((i-1) / 48) ((i-1)%48) (by omega) (by omega);rw[show (i-1) / 48*48+(i-1)%48=i-1 by omega]at b;rw[zP,zy (by rw[zj,a];omega),zX (by rw[zj,a,c];omega),zj,a,qt _ _ _ _ _ _ _ _ _ _ (by omega),zO,show min 1 200=1 by omega,b];unfold pT;rw[zb (by omega),ze (by omega)]
  .rw[zP,zy (by rw[zj,a];omega),zy (by rw[zj,a,c];omega),yw,zj,a,c,f];rw[show 1+192+(i-min 1 200-192)=i by omega];by_cases b:i<200
   .rw[qt _ _ _ _ _ _ _ _ _ _ b,qt _ _ _ _ _ _ _ _ _ _ b];unfold pT;have e:¬i=0:=(by omega);rw[zb e,zb e,zb d,zb d]
   .rw[yd (by rw[pi];omega),yd (by rw[pi];omega)]
def mC (s:Fs):(Int×Int)×Fs:=
 if (rm s.fo).2.2=0 then (if endE s {tx0 s with fo:=(rm s.fo).1}=0 then (((rm s.fo).2.1),0) else (0,endE s {tx0 s with fo:=(rm s.fo).1}),endS s {tx0 s with fo:=(rm s.fo).1}) else ((0,(rm s.fo).2.2),s)
theorem Qi (h:FsAt w gf s F a) (aa:(rm s.fo).2.2=0->rX s {tx0 s with fo:=(rm s.fo).1}):
 Calls prog 31 #[(gf,())] w
  (fun e w'=>e=.returned (.tuple #[.int .i64 (mC s).1.1,.int .i64 (mC s).1.2])/\uB w gf (mC s).2 F a w'):=by
 have H:=za h;have al:=za (oA h);obtain⟨R0,D⟩:=zD (mC s);rw[D.o];obtain⟨⟨re,rb⟩,rs⟩:=R0;obtain⟨r,n,c,k⟩:∃f n c,Hid (rm s.fo=(f,n,c)):=⟨_,_,_,rfl⟩;obtain⟨J,C⟩:∃z:Tx,Hid ({tx0 s with fo:=r}=z):=⟨_,za rfl⟩;have HM:Hid ((if c=0 then (if endE s J=0 then ((n:Int),0) else (0,endE s J),endS s J) else ((0,c),s))=((re,rb),rs)):=by show _=_;rw[<-D.o,<-C.o];unfold mC;rw[k.o]
 rw[k.o]at aa;have an:=za aa;obtain⟨A,HA⟩:=zA (encF s.fo);obtain⟨X,HX⟩:=zA (encF (rm s.fo).1);have ab:=za (Rd s.fo A X n c HA HX (za (by rw[k.o])) (za (by rw[k.o])));have ax:Hid (A.size=192):=by rw[HA.o];exact uj _
 have g:Hid (X.size=192):=by rw[HX.o];exact uj _
 have B:Hid (X.all (·.oneCell')=true):=by rw[HX.o];exact nx _
 obtain⟨t,V⟩:=zA (encF tL);have HZ:Hid (∀w,(zeroValue 106).run prog w=.ok (.agg t) w):=by rw[V.o];exact forZ
 have U:Hid (t.size=192):=by rw[V.o];exact uj _
 clear h aa;go_enter func31,ntmps31;go_wp2_with fail
 refine al.o.mono ?_;rintro e Y ⟨q,T,rfl,W,hT⟩;have O:=za W;have Q:=za hT;obtain⟨rv,gn,cn,gd,gp,gv,E,pl,hl⟩:=hT.lies;have aj:=za hl;obtain⟨R,Z⟩:=zD (txR (gf,()) s.fo rv (.slice (some ⟨gn,0,none⟩) 32 cn) (.map (some gd)) (.map (some gp)) gv false 256);have v:Hid (Y.heap[q]?=some (.cells R 118)):=by show _=_;rw[<-Z.o];exact hl.row
 have ao:Hid (∀j,j<A.size->R[1+j]?=A[j]?):=by rw[HA.o,<-Z.o];exact eK _ _ _ _ _ _ _ _ _
 have af:Hid (R.size=200):=by rw[<-Z.o];exact pi _ _ _ _ _ _ _ _ _
 obtain⟨y,L⟩:=zD (txR (gf,()) r rv (.slice (some ⟨gn,0,none⟩) 32 cn) (.map (some gd)) (.map (some gp)) gv false 256);have aq:Hid ((R.toList.take 1++X.toList++R.toList.drop (1+X.size)).toArray=y):=by rw[<-Z.o,HX.o,k.o,<-L.o];exact JF _ _ _ _ _ _ _ _ _ _
 clear W hT hl;go_wp2_with (refine pZ (by kernel_rfl) 106 (.tmp 14) rfl q 1 rfl 118 R A (0,0) _ v.o ao.o forT rfl (by rw[ax.o];exact forI) ?_)
 refine (ab.o Y).mono ?_;rintro e u ⟨rfl,m⟩;have aC:=za m;have b:Hid (Below Y Y ((u.alloc (.cells t 106)).setRow u X)):=xI (m.alloc m.size _) m.size _;have N:Hid (((u.alloc (.cells t 106)).setRow u X).heap[u.heap.size]?=some (.cells X 106)):=yh _ _ _ _ _ _ (zH);clear m;by_cases I:c=0;case neg=>
  have b0:(c==0)=false:=by simpa using I
  have b1:(c != 0)=true:=by simpa using I
  have d:=HM.o;rw[zb I]at d;injection d with d h2;injection d with d G;subst d h2 G;clear I;go_wp2_with (first
   | (refine oC rfl 106 rfl t HZ.o ?_)
   | (refine yG rfl 106 (.tmp 5) (.tmp 17) rfl u X rfl rfl 106 t (zH) (by rw[g.o];exact forI) (by rw[U.o,g.o]) B.o ?_))
  go_ret2;exact⟨rfl,uB.same H.o (zf O.o b.o)⟩
 subst I;have x:=za (an.o rfl);rw[C.o]at x;obtain⟨K,M⟩:=zD (endE s J);have av:Hid (((if K=0 then ((n:Int),0) else (0,K)),endS s J)=((re,rb),rs)):=by have d:=HM.o;rw[ze rfl,M.o]at d;exact d
 go_upto_region 5 with (first
  | (refine oC rfl 106 rfl t HZ.o ?_)
  | (refine yG rfl 106 (.tmp 5) (.tmp 17) rfl u X rfl rfl 106 t (zH) (by rw[g.o];exact forI) (by rw[U.o,g.o]) B.o ?_))
 obtain⟨g5,ae⟩:=zD u.heap.size;rw[ae.o]at b N ⊢;generalize (u.alloc (.cells t 106)).setRow g5 X=w3 at *
 have p:=za (wy b.o v.o)
 go_upto_region 6 with (first
  | (refine yS rfl 106 (.tmp 5) rfl g5 rfl 106 X (0,0) _ N.o forT rfl (by rw[g.o];exact forI) ?_)
  | (refine jI rfl 106 (.tmp 26) (.tmp 24) rfl q 1 X rfl rfl 118 R y p.o (by rw[g.o];exact forI) (by rw[g.o,af.o];omega) B.o aq.o ?_))
 have l:(w3.setRow q y).heap[q]?=some (.cells y 118):=yh _ _ _ _ _ _ p.o;have hd:=(aj.o.below b.o).putHas (Q.o.below b.o) r (yQ.setRow (F:=fun i=>i=q) rfl y) (show (w3.setRow q y).heap[q]?=some (.cells (txR (gf,()) r rv (.slice (some ⟨gn,0,none⟩) 32 cn) (.map (some gd)) (.map (some gp)) gv false 256) 118) by rw[L.o];exact l);have ak:=za (hd.old (zf O.o b.o) (Q.o.below b.o));obtain⟨T4,t4,_⟩:=hd;have P:=za (ms H.o ak.o (by rw[<-C.o];exact t4) x.o);rw[M.o]at P;generalize w3.setRow q y=w4 at *
 clear l t4;go_wp2_with fail
 refine P.o.mono ?_;rintro e w5 ⟨rfl,h5⟩;have H5:=za h5;clear h5;have d:=av.o;injection d with d h2;subst h2;by_cases S:K=0
 .subst S;rw[ze rfl]at d;injection d with d G;subst d G;go_wp2;go_ret2;exact⟨rfl,H5.o⟩
 .have b0:(K==0)=false:=by simpa using S
  have b1:(K != 0)=true:=by simpa using S
  rw[zb S]at d;injection d with d G;subst d G;clear S;go_wp2;go_ret2;exact⟨rfl,H5.o⟩
theorem OP (f) (k) (u:1<=k) (r:k<4) (A Z0) (t:Hid (A=encF f)) (q:Hid (Z0=encF tL)) (s:Hid (vO f k=false)) (w):
 Calls prog 62 #[.agg A,.int .i64 k] w fun e w'=>e=.returned (.tuple #[.agg Z0,(4:Int)])/\Below w w w':=by
 have l:decide ((k:Int)<1)=false:=zz (by omega);have d:Hid (A.size=192):=by rw[t.o];exact uj f
 have j:Hid (∀w,(zeroValue 106).run prog w=.ok (.agg Z0) w):=by rw[q.o];exact forZ
 have m:Hid (prog.built 106 []=some Z0):=by rw[q.o];exact forB
 have c:Hid (Z0.size=192):=by rw[q.o];exact uj _
 have i:Hid (Z0.all (·.oneCell')=true):=by rw[q.o];exact nx _
 have h:Hid (∀(W),Calls prog 76 #[.agg A,k] W fun e w'=>e=.returned (.bool false)/\Below W W w'):=fun W=>by rw[t.o,<-s.o];exact jN f k W r
 go_enter func62,ntmps62
 go_wp2_with (first
  | (refine oC rfl 106 rfl Z0 j.o ?_)
  | (refine Ta (by kernel_rfl) 106 (.tmp 2) rfl w rfl 106 A (0,0) _ (vH w _ _) forT rfl (by rw[d.o];exact forI) ?_))
 refine (h.o _).mono ?_;rintro e n ⟨rfl,a⟩;have b:=za (wy a (vm w _ _));have g:=zf ((zB.alloc zL _).alloc (by simp) _) a;clear a;have p:=j.o;go_wp2_with (first
  | (refine yG rfl 106 (.tmp 4) (.tmp 14) rfl (w.heap.size+1) Z0 rfl rfl 106 Z0 b.o (by rw[c.o];exact forI) rfl i.o ?_))
 refine yV (Ye rfl _ _ (w.heap.size+1) 106 Z0 (0,0) _ (.int .i64 4) rfl rfl (yh _ _ _ _ _ _ b.o) forT rfl (by rw[c.o];exact forI)) rfl ⟨rfl,?_⟩;exact xI g (by omega) _
def lO (s:Fs) (k:Nat):Int×Fs:=if vO s.fo k=true then (endE s {tx0 s with fo:=delT s.fo k},endS s {tx0 s with fo:=delT s.fo k}) else (4,s)
theorem Mq (h:FsAt w gf s F a) (k) (ad:1<=k) (ae:k<4) (ai:vO s.fo k=true->rX s {tx0 s with fo:=delT s.fo k}):
 Calls prog 23 #[(gf,()),.int .i64 k] w
  (fun e w'=>e=.returned (.int .i64 (lO s k).1)/\uB w gf (lO s k).2 F a w'):=by
 have H:=za h;obtain⟨M,u⟩:=zD (lO s k);rw[u.o];obtain⟨re,rs⟩:=M;have ag:=za ai;obtain⟨A,O⟩:=zA (encF s.fo);obtain⟨g,n⟩:=zA (encF tL);obtain⟨X,c,S,hc⟩:∃X c,Hid (X=if vO s.fo k=true then encF (delT s.fo k) else g)/\Hid (c=if vO s.fo k=true then (0:Int) else 4):=⟨_,_,rfl,rfl⟩;have aa:Hid (∀W,Calls prog 62 #[.agg A,k] W fun e w'=>e=.returned (.tuple #[.agg X,.int .i64 c])/\Below W W w'):=fun W=>by
  rw[S.o,hc.out];by_cases b:vO s.fo k=true
  .rw[ze b,ze b,O.o];exact OQ s.fo k ad ae b W
  .rw[zb b,zb b];exact OP s.fo k ad ae A g O n (za (by simpa using b)) W
 have av:Hid (A.size=192):=by rw[O.o];exact uj _
 have B:Hid (g.size=192):=by rw[n.o];exact uj _
 have d:Hid (X.size=192):=by rw[S.o];split;exact uj _;exact B.o
 have v:Hid (X.all (·.oneCell')=true):=by rw[S.o];split;exact nx _;rw[n.o];exact nx _
 have HZ:Hid (∀w,(zeroValue 106).run prog w=.ok (.agg g) w):=by rw[n.o];exact forZ
 obtain⟨⟨gl,rv,nv,bt,bh,E,tl,FD,h1,_⟩,_⟩:=h;obtain⟨R,HR⟩:=zD (fsR (.pointer (some a)) (gl,()) s.fo rv nv (.map (some bt)) (.map (some bh)));have ah:Hid (∀j,j<A.size->R[2+j]?=A[j]?):=by rw[O.o,<-HR.o];exact hQ _ _ _ _ _ _ _
 rw[HR.o]at h1;have J:=za h1;clear h1 ai;go_enter func23,ntmps23;go_wp2_with (refine pZ (by kernel_rfl) 106 (.tmp 11) rfl gf 2 rfl 111 R A (0,0) _ J.o ah.o forT rfl (by rw[av.o];exact forI) ?_)
 refine (aa.o w).mono ?_;rintro e p ⟨rfl,l⟩;have m:Hid (Below w w ((p.alloc (.cells g 106)).setRow p X)):=xI (l.alloc l.size _) l.size _;have K:Hid (((p.alloc (.cells g 106)).setRow p X).heap[p.heap.size]?=some (.cells X 106)):=yh _ _ _ _ _ _ (zH);clear l;by_cases b:vO s.fo k=true;case neg=>
  have x:=u.o;unfold lO at x;rw[zb b]at x;injection x with m1 m2;subst m1 m2;obtain rfl:c=4:=by rw[hc.out,zb b]
  clear b;go_wp2_with (first
   | (refine oC rfl 106 rfl g HZ.o ?_)
   | (refine yG rfl 106 (.tmp 5) (.tmp 15) rfl p X rfl rfl 106 g (zH) (by rw[d.o];exact forI) (by rw[B.o,d.o]) v.o ?_))
  go_ret;exact⟨rfl,uB.same H.o m.o⟩
 obtain rfl:c=0:=by rw[hc.out,ze b]
 have ap:Hid (X=encF (delT s.fo k)):=by show _=_;rw[S.o,ze b]
 have r:=za (ag.o b);obtain⟨XT,y⟩:∃z:Tx,Hid ({tx0 s with fo:=delT s.fo k}=z):=⟨_,za rfl⟩;rw[y.o]at r;have x:=u.o;unfold lO at x;rw[ze b,y.o]at x;injection x with m1 m2;subst m1 m2;clear b
 go_upto_region 4 with (first
  | (refine oC rfl 106 rfl g HZ.o ?_)
  | (refine yG rfl 106 (.tmp 5) (.tmp 15) rfl p X rfl rfl 106 g (zH) (by rw[d.o];exact forI) (by rw[B.o,d.o]) v.o ?_))
 obtain⟨g5,Y⟩:=zD p.heap.size;rw[Y.o]at m K ⊢;generalize (p.alloc (.cells g 106)).setRow g5 X=w3 at *
 have L:=za (H.o.below m.o);have af:=za (oA L.o);go_wp2_with fail
 refine af.o.mono ?_;rintro e P ⟨q,T,rfl,D,hT⟩;have ao:=za D;have N:=za hT;obtain⟨t,gn,cn,V,gp,gv,E4,pl,hl⟩:=hT.lies;have ab:=za hl;obtain⟨Q,U⟩:=zD (txR (gf,()) s.fo t (.slice (some ⟨gn,0,none⟩) 32 cn) (.map (some V)) (.map (some gp)) gv false 256);have I:Hid (P.heap[q]?=some (.cells Q 118)):=by show _=_;rw[<-U.o];exact hl.row
 have aw:Hid (Q.size=200):=by rw[<-U.o];exact pi _ _ _ _ _ _ _ _ _
 obtain⟨C,G⟩:=zD (txR (gf,()) (delT s.fo k) t (.slice (some ⟨gn,0,none⟩) 32 cn) (.map (some V)) (.map (some gp)) gv false 256);have aj:Hid ((Q.toList.take 1++X.toList++Q.toList.drop (1+X.size)).toArray=C):=by rw[<-U.o,ap.o,<-G.o];exact JF _ _ _ _ _ _ _ _ _ _
 have Z:=za (wy D K.o);clear D hT hl
 go_upto_region 6 with (first
  | (refine yS rfl 106 (.tmp 5) rfl g5 rfl 106 X (0,0) _ Z.o forT rfl (by rw[d.o];exact forI) ?_)
  | (refine jI rfl 106 (.tmp 25) (.tmp 23) rfl q 1 X rfl rfl 118 Q C I.o (by rw[d.o];exact forI) (by rw[d.o,aw.o];omega) v.o aj.o ?_))
 have f:(P.setRow q C).heap[q]?=some (.cells C 118):=yh _ _ _ _ _ _ I.o;have hd:=ab.o.putHas N.o (delT s.fo k) (yQ.setRow (F:=fun i=>i=q) rfl C) (show (P.setRow q C).heap[q]?=some (.cells (txR (gf,()) (delT s.fo k) t (.slice (some ⟨gn,0,none⟩) 32 cn) (.map (some V)) (.map (some gp)) gv false 256) 118) by rw[G.o];exact f);have ac:=za (hd.old ao.o N.o);obtain⟨T5,t5,_⟩:=hd;have al:=za (ms L.o ac.o (by rw[<-y.o];exact t5) r.o);generalize P.setRow q C=w5 at *
 clear f t5;go_wp2_with fail
 refine al.o.mono ?_;rintro e w6 ⟨rfl,h6⟩;have H6:=za (h6.after m.o);clear h6;go_wp2;go_ret;exact⟨rfl,H6.o⟩
theorem S7 (fp) (fo) (rv nv dv pv gv) (full) (fake) (u):(txR fp fo rv nv dv pv gv full fake).setIfInBounds 193 u=txR fp fo u nv dv pv gv full fake:=by
 rw[YI _ _ _ _ _ _ _ _ _ 193 (by omega) u (by omega)];unfold txR
 congr 1
 funext j
 unfold pT;by_cases h:j.val=193
 .simp[h]
 .simp[h]
theorem uV.putRows {w':World} {B:Nat} {T:Nat->Prop} {gt:Nat} {fp:Value} {x:Tx} {rv:Value} {gn cn gd gp:Nat} {gv:Value} {E:List Nd} {pl:List (Int×Value)} (h:uV w B F T gt fp x rv gn cn gd gp gv E pl) (n:TxAt w B F gt fp x T) (rv') (l) (p:l.length<=20)
 (o:yQ (fun i=>i=gt) w w') (q:w'.heap[gt]?=some (.cells (txR fp x.fo rv' (.slice (some ⟨gn,0,none⟩) 32 cn) (.map (some gd)) (.map (some gp)) gv x.full x.fake) 118)) (r:Out (fun i=>F i\/T i) w' (fun w2=>wh w2 rv' 2 l.length (wY l))):uc B F gt fp {x with rows:=l} T w w':=by
 have d:yQ T w w':=o.mono fun i _ c=>by rw[c];exact n.self
 have e:∀b,b<w.heap.size->b≠gt->w'.heap[b]?=w.heap[b]? :=fun b k j=>o.block b k j;refine⟨T,uV.at (x:={x with rows:=l}) (rv:=rv') (gn:=gn) (cn:=cn) (gd:=gd) (gp:=gp) (gv:=gv) (E:=E) (pl:=pl) ⟨q,r,?_,qS h.nds d (fun _ c=>zr c),?_,?_,?_,h.ne,?_,h.tn,h.td,h.tp,h.tg⟩ n.self n.len (fun i c=>zo (n.fin i c) o.size) n.new n.gone n.put n.dirty p n.fake,fun _ c=>zr c,d,fun _ c=>c⟩
 .exact tw h.own fun b a=>e b (h.own.lt b a).2 (rH h.own h.row (by decide) b a)
 .exact h.dirt.of_block (e gd h.dirt.lt (yA (tQ h.row h.dirt)))
 .exact h.puts.of_block (e gp h.puts.lt (yA (tQ h.row h.puts)))
 .exact h.secs.keep fun g m _ f=>e g (xR f) (tC f h.row (by decide))
 .exact tw h.gone fun b a=>e b (h.gone.lt b a).2 (rH h.gone h.row (by decide) b a)
def ol (s:Fs) (u lim:Int):Int×Fs:=if py s.rows u lim=true then (6,s) else (endE s {tx0 s with rows:=setQ s.rows u lim},endS s {tx0 s with rows:=setQ s.rows u lim})
theorem L2 (h:FsAt w gf s F a) (u lim) (hq:okQ s.rows=true) (hu:0<=u/\u<=255) (hm: -1<=lim/\lim<=256) (aa:py s.rows u lim=false->(setQ s.rows u lim).length<=20/\rX s {tx0 s with rows:=setQ s.rows u lim}):
 Calls prog 27 #[(gf,()),.int .i64 u,.int .i64 lim] w
  (fun e w'=>e=.returned (.int .i64 (ol s u lim).1)/\uB w gf (ol s u lim).2 F a w'):=by
 have H:=za h;obtain⟨M,k⟩:=zD (ol s u lim);rw[k.o];obtain⟨re,rs⟩:=M;have V:=za aa;have J:=za h.fin;obtain⟨⟨gl,rv,nv,bt,bh,E,tl,FD,h1,h2,h3,h4,h5,O,h7,_⟩,_,_,_,_,_,_,A⟩:=h;obtain⟨_,_,ae,_,_,_⟩:=nw h1;have Y:=za (Tq rv s.rows u lim w h7.now A hq hu.1 hu.2 hm.1 hm.2);clear h1 h2 h3 h4 h5 O h7 aa;go_enter func27,ntmps27;go_wp2_with fail
 refine Y.o.mono ?_;rintro e w1 ⟨Z,Q,g⟩;have K:=za g;by_cases r:py s.rows u lim=true
 .have he:=Z r;subst he;have m:=k.o;unfold ol at m;rw[ze r]at m;injection m with X m2;subst X m2;clear Z Q g r;go_wp2;go_ret;exact⟨rfl,uB.same H.o K.o⟩
 have l:py s.rows u lim=false:=by simpa using r
 obtain⟨v,rfl,P⟩:=Q l;obtain⟨t,y,R,_⟩:=tV P;subst R;obtain⟨XT,q⟩:∃z:Tx,Hid ({tx0 s with rows:=setQ s.rows u lim}=z):=⟨_,za rfl⟩;have m:=k.o;unfold ol at m;rw[zb r,q.o]at m;injection m with X m2;subst X m2;have d:=za (V.o l);rw[q.o]at d;have N:=za P;have D:=za (H.o.below g);have U:=za (oA D.o);clear Z Q g r l P;go_wp2_with fail
 refine U.o.mono ?_;rintro e G ⟨f,T,rfl,c,j⟩;have aw:=za c;have a0:=za j;obtain⟨aj,gn,cn,gd,gp,gv,E4,pl,x⟩:=j.lies;have am:=za x;have ac:=(rt x.row).2.1;have ad:G.frozen? (f,193)=false:=zF x.row;have n:yQ (fun i=>i=f) G (G.setCell (f,193) (.slice t (setQ s.rows u lim).length y)):=yQ.setCell (F:=fun i=>i=f) (p:=⟨f,193,none⟩) rfl _;have I:(G.setCell (f,193) (.slice t (setQ s.rows u lim).length y)).heap[f]?=some (.cells (txR (gf,()) (tx0 s).fo (.slice t (setQ s.rows u lim).length y) (.slice (some ⟨gn,0,none⟩) 32 cn) (.map (some gd)) (.map (some gp)) gv (tx0 s).full (tx0 s).fake) 118):=by rw[<-S7];exact yb _ _ 193 _ _ _ x.row
 have B:Out (fun i=>F i\/T i) (G.setCell (f,193) (.slice t (setQ s.rows u lim).length y)) (fun w2=>wh w2 (.slice t (setQ s.rows u lim).length y) 2 (setQ s.rows u lim).length (wY (setQ s.rows u lim))):=by
  have ar:=j.new f j.self;refine ZI (wh.of_owns (tw (tB N.o c) fun b L=>n.block b (zo (N.o.lt b L).2 c.size) fun hc=>?_)) fun b L _ C=>?_
  .have:=(N.o.lt b L).2;omega
  .have h1:=N.o.lt b L;rcases C with C|C
   .have:=J.o b C;omega
   .have:=j.new b C;omega
 have hd:=x.putRows j (.slice t (setQ s.rows u lim).length y) (setQ s.rows u lim) d.o.1 n I B;have S:=za (hd.old c j);obtain⟨T5,t5,_⟩:=hd;have W:=za (ms D.o S.o (by rw[<-q.o];exact t5) d.o.2);clear n I B t5 c j x;go_wp2_with fail
 refine W.o.mono ?_;rintro e w6 ⟨rfl,O⟩;have H6:=za (O.after K.o);clear O;go_wp2;go_ret;exact⟨rfl,H6.o⟩
def jJ (s:Fs) (n:Int):Bool:=decide (1<=n)&&decide ((s.nodes.getD (n-1).toNat zN).k≠0)
def belN (s:Fs) (top:Int):Nat->Int->Bool
 | 0,_=>false
 | f+1,n=>if n=top then true else if n=1 then false else if jJ s n=true then belN s top f (s.nodes.getD (n-1).toNat zN).up else false
theorem OG (h:FsAt w gf s F a) (n) (f:0<=n/\n<=32):
 Calls prog 73 #[(gf,()),.int .i64 n] w (fun e w'=>e=.returned (.bool (jJ s n))/\w=w'):=by
 by_cases c:n=0
 .subst c;exact Uu _ w
 .obtain⟨i,rfl⟩:∃i:Nat,n=(i:Int)+1:=⟨(n-1).toNat,by omega⟩;have e:((i:Int)+1-1).toNat=i:=by omega
  have b:=Zf h i (by omega) (s.nodes.getD i zN) (mv (by rw[h.len];omega));have d:jJ s (i+1)=decide ((s.nodes.getD i zN).k≠0):=by unfold jJ;rw[e,ya (by omega:(1:Int)<=(i:Int)+1),uf]
  rw[d];exact b
theorem OI (h:FsAt w gf s F a) (ino top) (hi:0<=ino/\ino<=32) (aa:∀X∈s.nodes,0<=X.up/\X.up<=32):
 Calls prog 82 #[(gf,()),.int .i64 ino,.int .i64 top] w (fun e w'=>e=.returned (.bool (belN s top 32 ino))/\w=w'):=by
 have H:=za h;have A:=za aa;obtain⟨R,D⟩:=zD (belN s top 32 ino);rw[D.o];clear h aa;go_enter func82,ntmps82;go_wp2;go_loopw [1,7] (fun x c wr=>∃(n:Int) (j:Nat),j<=32/\x=.int .i64 n/\c=.int .i64 j/\Hid (0<=n/\n<=32)/\Hid (wr=w)/\Hid (belN s top (32-j) n=R)) (fun _ c _=>32-(intOf c).toNat);case atStart=>exact⟨ino,0,by omega,rfl,rfl,hi,rfl,D.o⟩
 case round=>
  obtain⟨n,j,hj,rfl,rfl,E,u,C⟩:=hrel;obtain rfl:wr=w:=u.o;by_cases L:j<32
  .have G:(j:Int)<32:=(by omega);have b:=C.o;rw[show 32-j=(32-(j+1))+1 by omega]at b;unfold belN at b;by_cases l:n=top
   .rw[ze l]at b;subst b;have M:(n==top)=true:=(by simp[l]);clear l;go_wp2;go_ret;simp
   rw[zb l]at b;have M:(n==top)=false:=(by simpa using l);clear l;by_cases m:n=1
   .rw[ze m]at b;subst b m;go_wp2;go_ret;simp
   rw[zb m]at b;have b2:(n==1)=false:=(by simpa using m);have d:=za (OG H.o n E.o);clear m;cases k:jJ s n with
   | false=>
    rw[k]at b d;rw[zb (by decide)]at b;subst b;go_wp2_with fail
    refine d.o.mono ?_;rintro e J ⟨rfl,rfl⟩;go_wp2;go_ret;simp
   | true=>
    rw[k]at b d;rw[ze rfl]at b;have r:1<=n:=by
     unfold jJ at k;by_cases I:1<=n
     .exact I
     .rw[zz I]at k;cases k
    obtain⟨i,z⟩:∃i:Nat,n=(i:Int)+1:=⟨(n-1).toNat,by omega⟩;have f:i<32:=(by have:=E.o;omega);have e:(n-1).toNat=i:=(by omega);rw[e]at b;obtain⟨N,p⟩:=zD (s.nodes.getD i zN);rw[p.o]at b;have g:s.nodes[i]?=some N:=(by rw[<-p.o];exact mv (by rw[H.o.len];exact f));have v:=A.o N (xU g);obtain⟨gn,on,cn,yq,Z,yc,B,S,K,U,Q,V,W,O,P,_⟩:=oX H.o i f N g;have i1:IntKind.i64.wrap (n-1)=i:=(by rw[zQ _ (by omega)];omega);have q:(i:Int)<32:=(by omega);obtain⟨y,Y⟩:=zD N.up;rw[Y.o]at b v P;have T:=za v;have t:=za b;clear b v e K U Q V W O g k z r;go_wp2_with fail
    refine d.o.mono ?_;rintro e J ⟨rfl,rfl⟩;go_wp2;go_roundw;case rel=>exact⟨y,j+1,by omega,rfl,by go_num,T,za trivial,t⟩
    case measure=>simp[intOf];omega
  .obtain rfl:j=32:=(by omega);have b:false=R:=C.o;subst b;go_wp2;go_ret;simp
theorem idx2_0 (x y) (W):(Instr.index 136 (.agg #[x,y]) (.int .i64 0)).run prog W=.ok x W:=by kernel_rfl
theorem idx2_1 (x y) (W):(Instr.index 136 (.agg #[x,y]) (.int .i64 1)).run prog W=.ok y W:=by kernel_rfl
def movO (E:List Int) (b:ByteArray):Option Nat:=if (vB E b).2.2=0 then some ((vB E b).1-1).toNat else none
def movE (s:Fs) (j n:Nat):Option Nat->Int
 | none=>if (s.nodes.getD n zN).k=2/\belN s (n+1) 32 (j+1)=true then 14 else 0
 | some m=>if (s.nodes.getD m zN).k=2↔(s.nodes.getD n zN).k=2 then (if (s.nodes.getD n zN).k=2/\0<(s.nodes.getD m zN).s then 13 else if (s.nodes.getD n zN).k=2/\belN s (n+1) 32 (j+1)=true then 14 else 0) else 12
def movT (s:Fs) (i j:Nat) (a b:ByteArray):Option Nat->Tx
 | none=>(tx0 s).leaX s i a
 | some m=>(((tx0 s).leaX s i a).leaX s j b).dropX s m
def upP (N:Pn) (j:Nat):Pn:={N with up:=j+1}
def movY (s:Fs) (i j n:Nat) (a b:ByteArray) (o:Option Nat):Tx:=(movT s i j a b o).entX s j (b,n+1)
def movX (s:Fs) (i j n:Nat) (a b:ByteArray) (o:Option Nat):Tx:=if (s.nodes.getD n zN).k=2 then (movY s i j n a b o).setX n (upP ((movY s i j n a b o).nodes.getD n zN) j) else movY s i j n a b o
def movR (s:Fs) (i j n:Nat) (a b:ByteArray) (o:Option Nat):Int×Fs:=
 if o=some n then (0,s) else if movE s j n o≠0 then (movE s j n o,s) else
 if tc ((movT s i j a b o).dirD s j) (b,n+1)≠0 then (tc ((movT s i j a b o).dirD s j) (b,n+1),s) else (endE s (movX s i j n a b o),endS s (movX s i j n a b o))
def movM (s:Fs) (i j:Nat) (D E:List Int) (a b:ByteArray):Int×Fs:=
 if (vB D a).2.2=0 then movR s i j ((vB D a).1-1).toNat a b (movO E b) else ((vB D a).2.2,s)
structure kM (s:Fs) (i j n:Nat) (a b:ByteArray) (o:Option Nat):Prop where
 one:∀m,o=some m->lS ((tx0 s).leaX s i a)/\DirT ((tx0 s).leaX s i a) s j (((tx0 s).leaX s i a).nodes.getD j zN) (((tx0 s).leaX s i a).dirD s j)/\ZG (((tx0 s).leaX s i a).leaX s j b) s m
 room:lS (movT s i j a b o)
 dir:DirT (movT s i j a b o) s j ((movT s i j a b o).nodes.getD j zN) ((movT s i j a b o).dirD s j)
 run:tc ((movT s i j a b o).dirD s j) (b,(n:Int)+1)=0->(movY s i j n a b o).dirty.length<900/\rX s (movX s i j n a b o)
theorem Qj {ad:Addr} (h:FsAt w gf s F ad) (i) (X) (D) (hd:DirS s i X D) (j) (Y) (E) (he:DirS s j Y E) (a b) (ha:rW a=true) (hb:rW b=true) (an:∀X∈s.nodes,0<=X.up/\X.up<=32)
 (ao:(vB D a).2.2=0->movO E b≠some ((vB D a).1-1).toNat->movE s j ((vB D a).1-1).toNat (movO E b)=0->kM s i j ((vB D a).1-1).toNat a b (movO E b)):
 Calls prog 39 #[(gf,()),.int .i64 (i+1),.string a,.int .i64 (j+1),.string b] w
  (fun e w'=>e=.returned (.int .i64 (movM s i j D E a b).1)/\uB w gf (movM s i j D E a b).2 F ad w'):=by
 have H:=za h;have aY:=za h.len;have bO:=za (fun W=>Zd a W);have bP:=za (fun W=>Zd b W);rw[ha]at bO;rw[hb]at bP;have bX:=za (VX h i hd.lt X hd.nd);rw[hd.k,zb (by omega),ze rfl]at bX;have bR:=za (VX h j he.lt Y he.nd);rw[he.k,zb (by omega),ze rfl]at bR;have bU:=za (VB h i X D hd a ha);have bQ:Hid (∀W,Below w w W->Calls prog 69 #[(gf,()),.int .i64 (j+1),.string b] W (fun e w'=>e=.returned (.tuple #[.int .i64 (vB E b).1,.int .i64 (vB E b).2.2])/\Below W W w')):=fun W hW=>VB (h.below hW) j Y E he b hb;have aH:=za ao;have a5:Hid ((vB D a).2.2=0->1<=(vB D a).1/\(vB D a).1<=32):=Ue hd.ok;have a7:Hid ((vB E b).2.2=0->1<=(vB E b).1/\(vB E b).1<=32):=Ue he.ok;have bo:Hid ((vB D a).2.2=0\/(vB D a).2.2=4/\(vB D a).1=0):=Zh (D:=D) (n:=D.length / 16) (name:=a) 7 0 0;have bS:Hid ((vB E b).2.2=0\/(vB E b).2.2=4/\(vB E b).1=0):=Zh (D:=E) (n:=E.length / 16) (name:=b) 7 0 0;have aP:=za (hd.tx h.k1);have hj:=he.lt;have aS:Hid (∀(W) (n),Below w w W->Calls prog 82 #[(gf,()),.int .i64 (j+1),.int .i64 n] W (fun e w'=>e=.returned (.bool (belN s n 32 (j+1)))/\W=w')):=fun W n hW=>OI (h.below hW) ((j:Int)+1) n (by omega) an;obtain⟨gn,on,cn,yq,yn,yc,S,a9,f0,f1,f2,f3,f4,f5,_⟩:=oX h j hj Y he.nd;have dy:IntKind.i64.wrap (j+1-1)=j:=by rw[zQ _ (by omega)];omega
 have cf:(j:Int)<32:=by omega
 have c3:(Y.l==0)=false:=by have:=he.l;simp;omega
 obtain⟨lY,c8⟩:=zD Y.l;rw[c8.o]at c3 f5;have bV:Hid (∀W,Below w w W->FsAt W gf s F ad):=fun W hW=>h.below hW;obtain⟨R,HR⟩:=zD (movM s i j D E a b);rw[HR.o];obtain⟨re,rs⟩:=R;obtain⟨⟨ri,rl,rr⟩,Hr⟩:∃r,Hid (vB D a=r):=⟨vB D a,za rfl⟩;obtain⟨⟨qi,ql,qr⟩,Hq⟩:∃r,Hid (vB E b=r):=⟨vB E b,za rfl⟩;have HM:Hid ((if rr=0 then movR s i j (ri-1).toNat a b (if qr=0 then some (qi-1).toNat else none) else (rr,s))=(re,rs)):=by show _=_;rw[<-HR.o];unfold movM movO;rw[Hr.o,Hq.o]
 unfold movO at aH;rw[Hr.o,Hq.o]at aH;rw[Hr.o]at bU a5 bo;rw[Hq.o]at bQ a7 bS;have t:Hid (∀(e) (W),Below w w W->(e,s)=(re,rs)->e=re/\uB w gf rs F ad W):=fun e W hW he=>by injection he with d h2;exact⟨d,by rw[<-h2];exact uB.same H.o hW⟩
 clear h hd he ha hb an ao f0 f1 f2 f3 f4;go_enter func39,ntmps39;go_wp2_with fail
 refine (bO.o w).mono ?_;rintro e w0 ⟨rfl,rfl⟩;go_wp2_with fail
 refine (bP.o w).mono ?_;rintro e w0 ⟨rfl,rfl⟩;go_wp2;go_loopw [33] (fun c wr=>∃k:Nat,k<=2/\c=.int .i64 k/\Hid (wr=w)) (fun c _=>2-(intOf c).toNat);case atStart=>exact⟨0,by omega,rfl,rfl⟩
 case round=>
  obtain⟨k,hk,rfl,cm⟩:=hrel;obtain rfl:w=wr:=cm.o.symm;by_cases cu:k<2
  .have bY:k=0\/k=1:=(by omega);have dr:=idx2_0;have dB:=idx2_1;rcases bY with rfl|rfl
   .go_wp2_with fail
    refine bX.o.mono ?_;rintro e w1 ⟨rfl,rfl⟩;go_wp2;go_roundw;case rel=>exact⟨1,by omega,by go_num,za trivial⟩
    case measure=>simp[intOf]
   .go_wp2_with fail
    refine bR.o.mono ?_;rintro e w1 ⟨rfl,rfl⟩;go_wp2;go_roundw;case rel=>exact⟨2,by omega,by go_num,za trivial⟩
    case measure=>simp[intOf]
  .obtain rfl:k=2:=(by omega);clear hk cu;go_wp2_with fail
   refine bU.o.mono ?_;rintro e w1 ⟨rfl,bW⟩;have bs:=za bW;clear bW S a9 f5;rcases bo.o with c9|⟨cD,df⟩;case inr=>
    obtain rfl:rr=4:=cD;have z:=za (t.o 4 w1 bs.o (by have d:=HM.o;rw[zb (by decide)]at d;exact d));go_wp2;go_ret;exact⟨by rw[<-z.o.1];rfl,z.o.2⟩
   obtain rfl:rr=0:=c9;have bi:=(a5.o rfl).1;have bc:=(a5.o rfl).2;obtain⟨n,hn⟩:∃n:Nat,ri=(n:Int)+1:=⟨(ri-1).toNat,by omega⟩;have M:n<32:=(by omega);have bC:(ri-1).toNat=n:=(by omega);rw[ze rfl,bC]at HM;rw[bC]at aH;subst hn;have aj:=za (aH.o rfl);obtain⟨N,HN⟩:=zD (s.nodes.getD n zN);have bN:s.nodes[n]?=some N:=(by rw[<-HN.o];exact mv (by rw[aY.o];exact M));have cB:=za bN;have d3:IntKind.i64.wrap (n+1-1)=n:=(by rw[zQ _ (by omega)];omega);have cG:(n:Int)<32:=(by omega);clear bN bC bi bc a5 bo aH;go_wp2_with fail
   refine (bQ.o w1 bs.o).mono ?_;rintro e w2 ⟨rfl,bM⟩;have y:=za (zf bs.o bM);clear bM;obtain⟨gn,on,cn,yq,yn,yc,S,a9,e0,_⟩:=oX (bV.o w2 y.o) n M N cB.o;rcases bS.o with c5|⟨cr,cY⟩;case inr=>
    obtain rfl:qr=4:=cr;rw[zb (by decide)]at HM aj;obtain⟨o,Ho⟩:∃o:Option Nat,Hid (none=o):=⟨_,za rfl⟩;have aw:=za (aj.o (by simp));have co:(0==(n:Int)+1)=false:=(by simp;omega);clear aj;by_cases L:N.k=2
    .have b0:(N.k==2)=true:=(by simp[L]);cases K:belN s ((n:Int)+1) 32 ((j:Int)+1) with
     | true=>
      have q:=za (aS.o w2 ((n:Int)+1) y.o);rw[K]at q;have z:=za (t.o 14 _ y.o (by have d:=HM.o;unfold movR movE at d;simp only[HN.o,L,K]at d;rw[zb (fun I=>by cases I)]at d;simpa using d));clear K L;go_wp2_with fail
      refine q.o.mono ?_;rintro e w5 ⟨rfl,rfl⟩;go_wp2;go_ret;exact⟨by rw[<-z.o.1];rfl,z.o.2⟩
     | false=>
      have q:=za (aS.o w2 ((n:Int)+1) y.o);rw[K]at q;have Q:Hid (movE s j n none=0):=(by show _=_;unfold movE;simp only[HN.o,L,K];simp);have a2:Hid (movX s i j n a b none=(movY s i j n a b none).setX n (upP ((movY s i j n a b none).nodes.getD n zN) j)):=(by show _=_;unfold movX;rw[HN.o,ze L]);clear K L;go_wp2_with fail
      refine q.o.mono ?_;rintro e w5 ⟨rfl,rfl⟩;have v:=za (aw.o Q.o);have p:=HM.o;unfold movR at p;rw[zb (fun I=>by cases I),Q.o,zb (fun I=>I rfl)]at p;have f:=za (H.o.below y.o);have a0:=za (oA f.o);obtain⟨qe,A⟩:=zD (tc ((movT s i j a b none).dirD s j) (b,(n:Int)+1));rw[A.o]at p;have ah:=za p;clear p;go_wp2_with fail
      refine a0.o.mono ?_;rintro e w4 ⟨gt,T,rfl,ai,hT⟩;have aa:=za ai;have HT:Hid (TxAt w4 w2 F gt (gf,()) (tx0 s) T):=hT;have a3:=za (Zk f.o aa.o HT.o Vt i aP.o.2.2 a);clear ai hT S a9 e0;go_wp2_with fail
      refine a3.o.mono ?_;rintro e w5 ⟨rfl,d5⟩;have G:=za (d5.old aa.o HT.o);obtain⟨T5,t5,u5,v5,k5⟩:=d5;have V:=za t5;clear t5 u5 v5 k5;have U:=za (ZX f.o G.o V.o (fun r hr=>zo (f.o.fin r hr) G.o.size) v.o.room j _ _ v.o.dir (b,(n:Int)+1));rw[A.o]at U;go_wp2_with fail
      refine U.o.mono ?_;rintro e w8 ⟨rfl,d8⟩;have C:=za (d8.old G.o V.o);by_cases hq:qe=0;case neg=>
       have b5:(qe==0)=false:=(by simpa using hq);have b6:(qe != 0)=true:=(by simpa using hq);have z:=za (t.o qe w8 (y.o.trans (C.o.mono y.o.size)) (by have d:=ah.o;rw[ze hq]at d;exact d));clear d8 hq;go_wp2;go_ret;exact⟨by rw[<-z.o.1];rfl,z.o.2⟩
      subst hq;rw[ze rfl]at d8;have ag:Hid (re=endE s (movX s i j n a b none)/\rs=endS s (movX s i j n a b none)):=(by have d:=ah.o;rw[zb (fun I=>I rfl)]at d;injection d with d h2;exact⟨d.symm,h2.symm⟩);obtain⟨T8,t8,u8,v8,k8⟩:=d8;have J:Hid (TxAt w8 w2 F gt (gf,()) (movY s i j n a b none) T8):=t8;have ak:=za (v.o.run A.o);clear t8 u8 v8 k8;obtain⟨P,HP⟩:=zD ((movY s i j n a b none).nodes.getD n zN);have be:=za (mr J.o n M P (by rw[<-HP.o];exact mv (by rw[J.o.len];exact M)));go_wp2_with fail
      refine be.o.mono ?_;rintro e w9 ⟨pq,pn,pc,rfl,aA,am⟩;have c4:=za am;have bx:=za aA;obtain⟨gb,ay⟩:=zD w9.heap.size;have ba:Hid ((w9.alloc (.cells #[P.k,P.m,P.u,P.g,P.s,P.l,P.up,(pq,pn,pc)] 123)).heap[gb]?=some (.cells #[P.k,P.m,P.u,P.g,P.s,P.l,P.up,(pq,pn,pc)] 123)):=(by rw[<-ay.o];exact zH);have ab:Hid (Below w8 w8 (w9.alloc (.cells #[P.k,P.m,P.u,P.g,P.s,P.l,.int .i64 (j+1),(pq,pn,pc)] 123))):=am.alloc am.size _;have aM:Hid (Below w9 w9 (w9.alloc (.cells #[P.k,P.m,P.u,P.g,P.s,P.l,.int .i64 (j+1),(pq,pn,pc)] 123))):=zB.alloc zL _;have aB:Hid ((w9.alloc (.cells #[P.k,P.m,P.u,P.g,P.s,P.l,.int .i64 (j+1),(pq,pn,pc)] 123)).heap[gb]?=some (.cells #[P.k,P.m,P.u,P.g,P.s,P.l,.int .i64 (j+1),(pq,pn,pc)] 123)):=(by rw[<-ay.o];exact zH);have z6:(w9.alloc (.cells #[P.k,P.m,P.u,P.g,P.s,P.l,P.up,(pq,pn,pc)] 123)).frozen? (gb,6)=false:=zF ba.o;have bA:=za (lP (J.o.below ab.o) n M (upP P j) pq pn pc (bx.o.below aM.o) ak.o.1);clear aA am
      go_upto_region 40 with fail
      rw[ay.o];generalize w9.alloc (.cells #[P.k,P.m,P.u,P.g,P.s,P.l,.int .i64 ((j:Int)+1),(pq,pn,pc)] 123)=cC at *
      obtain⟨r0,r1,r2,r3,r4,r5,r6,r7⟩:=uT aB.o;go_wp2_with fail
      refine bA.o.mono ?_;rintro e c7 ⟨rfl,aC⟩;have aO:=za (aC.old (C.o.trans (ab.o.mono C.o.size)) (J.o.below ab.o));obtain⟨cH,aD,bw,bg,bt⟩:=aC;have HE:=za (ms f.o aO.o (x:=movX s i j n a b none) (by rw[a2.o,HP.o];exact aD) ak.o.2);clear aD bw bg bt r0 r1 r2 r3 r4 r5 r6 r7;go_wp2_with fail
      refine HE.o.mono ?_;rintro e bD ⟨rfl,ac⟩;have Z:=za (ac.after y.o);clear ac;go_wp2;go_ret;exact⟨by rw[ag.o.1];rfl,by rw[ag.o.2];exact Z.o⟩
    .have b0:(N.k==2)=false:=(by simpa using L);have Q:Hid (movE s j n none=0):=(by show _=_;unfold movE;rw[HN.o,zb (fun I=>L I.1)]);have a2:Hid (movX s i j n a b none=movY s i j n a b none):=(by show _=_;unfold movX;rw[HN.o,zb L]);clear L;have v:=za (aw.o Q.o);have p:=HM.o;unfold movR at p;rw[zb (fun I=>by cases I),Q.o,zb (fun I=>I rfl)]at p;have f:=za (H.o.below y.o);have a0:=za (oA f.o);obtain⟨qe,A⟩:=zD (tc ((movT s i j a b none).dirD s j) (b,(n:Int)+1));rw[A.o]at p;have ah:=za p;clear p;go_wp2_with fail
     refine a0.o.mono ?_;rintro e w4 ⟨gt,T,rfl,ai,hT⟩;have aa:=za ai;have HT:Hid (TxAt w4 w2 F gt (gf,()) (tx0 s) T):=hT;have a3:=za (Zk f.o aa.o HT.o Vt i aP.o.2.2 a);clear ai hT S a9 e0;go_wp2_with fail
     refine a3.o.mono ?_;rintro e w5 ⟨rfl,d5⟩;have G:=za (d5.old aa.o HT.o);obtain⟨T5,t5,u5,v5,k5⟩:=d5;have V:=za t5;clear t5 u5 v5 k5;have U:=za (ZX f.o G.o V.o (fun r hr=>zo (f.o.fin r hr) G.o.size) v.o.room j _ _ v.o.dir (b,(n:Int)+1));rw[A.o]at U;go_wp2_with fail
     refine U.o.mono ?_;rintro e w8 ⟨rfl,d8⟩;have C:=za (d8.old G.o V.o);by_cases hq:qe=0;case neg=>
      have b5:(qe==0)=false:=(by simpa using hq);have b6:(qe != 0)=true:=(by simpa using hq);have z:=za (t.o qe w8 (y.o.trans (C.o.mono y.o.size)) (by have d:=ah.o;rw[ze hq]at d;exact d));clear d8 hq;go_wp2;go_ret;exact⟨by rw[<-z.o.1];rfl,z.o.2⟩
     subst hq;rw[ze rfl]at d8;have ag:Hid (re=endE s (movX s i j n a b none)/\rs=endS s (movX s i j n a b none)):=(by have d:=ah.o;rw[zb (fun I=>I rfl)]at d;injection d with d h2;exact⟨d.symm,h2.symm⟩);obtain⟨T8,t8,u8,v8,k8⟩:=d8;have J:Hid (TxAt w8 w2 F gt (gf,()) (movY s i j n a b none) T8):=t8;have ak:=za (v.o.run A.o);clear t8 u8 v8 k8;have HE:=za (ms f.o C.o (x:=movX s i j n a b none) (by rw[a2.o];exact J.o) ak.o.2);go_wp2_with fail
     refine HE.o.mono ?_;rintro e bD ⟨rfl,ac⟩;have Z:=za (ac.after y.o);clear ac;go_wp2;go_ret;exact⟨by rw[ag.o.1];rfl,by rw[ag.o.2];exact Z.o⟩
   obtain rfl:qr=0:=c5;have bi:=(a7.o rfl).1;have bc:=(a7.o rfl).2;obtain⟨m,hm⟩:∃m:Nat,qi=(m:Int)+1:=⟨(qi-1).toNat,by omega⟩;have aV:m<32:=(by omega);have bT:(qi-1).toNat=m:=(by omega);rw[ze rfl,bT]at HM aj;subst hm;clear bT bi bc a7;by_cases aQ:m=n
   .subst aQ;have z:=za (t.o 0 w2 y.o (by have d:=HM.o;unfold movR at d;rw[ze rfl]at d;exact d));go_wp2;go_ret;exact⟨by rw[<-z.o.1];rfl,z.o.2⟩
   have aw:=za (aj.o (fun I=>aQ (r8 I)));have co:(m+1==(n:Int)+1)=false:=(by simp;omega);have dx:decide (0<(m:Int)+1)=true:=ya (by omega);have dC:0<(m:Int)+1:=(by omega);have aX:¬some m=some n:=fun I=>aQ (r8 I);have a8:=za aX;obtain⟨O,HO⟩:=zD (s.nodes.getD m zN);have bL:s.nodes[m]?=some O:=(by rw[<-HO.o];exact mv (by rw[aY.o];exact aV));have ci:=za bL;have d1:IntKind.i64.wrap (m+1-1)=m:=(by rw[zQ _ (by omega)];omega);have cN:(m:Int)<32:=(by omega);obtain⟨cO,cK,cA,oq,av,oc,af,aZ,g0,g1,g2,g3,g4,g5,g6,g7,_⟩:=oX (bV.o w2 y.o) m aV O ci.o;have bf:cO=gn/\cK=on/\cA=cn:=(by rw[S]at af;injection af with af;injection af with e1 e2 e3;injection e1 with e1;injection e1 with e4 e5;exact⟨e4.symm,e5.symm,e3.symm⟩);obtain⟨rfl,rfl,rfl⟩:=bf;have B:Hid (Below w w (w2.alloc (.cells #[O.k,O.m,O.u,O.g,O.s,O.l,O.up,(oq,av,oc)] 123))):=y.o.alloc y.o.size _;obtain⟨m0,m1,m2,m3,m4,m5,m6,m7⟩:=uT (zT w2 (.cells #[O.k,O.m,O.u,O.g,O.s,O.l,O.up,(oq,av,oc)] 123));clear aj aQ aX bL af;by_cases L:N.k=2
   .have b0:(N.k==2)=true:=(by simp[L]);by_cases hO:O.k=2
    .have b1:(O.k==2)=true:=(by simp[hO]);by_cases hS:0<O.s
     .have b2:=ya hS;have z:=za (t.o 13 _ B.o (by have d:=HM.o;unfold movR movE at d;simp only[HN.o,HO.o,L,hO,hS]at d;rw[zb a8.o]at d;simpa using d));clear L hO hS;go_wp2;go_ret;exact⟨by rw[<-z.o.1];rfl,z.o.2⟩
     have b2:=zz hS;cases K:belN s ((n:Int)+1) 32 ((j:Int)+1) with
     | true=>
      have q:=za (aS.o (w2.alloc (.cells #[O.k,O.m,O.u,O.g,O.s,O.l,O.up,(oq,av,oc)] 123)) ((n:Int)+1) B.o);rw[K]at q;have z:=za (t.o 14 _ B.o (by have d:=HM.o;unfold movR movE at d;simp only[HN.o,L,K,HO.o,hO,hS]at d;rw[zb a8.o]at d;simpa using d));clear K L hO hS;go_wp2_with fail
      refine q.o.mono ?_;rintro e w5 ⟨rfl,rfl⟩;go_wp2;go_ret;exact⟨by rw[<-z.o.1];rfl,z.o.2⟩
     | false=>
      have q:=za (aS.o (w2.alloc (.cells #[O.k,O.m,O.u,O.g,O.s,O.l,O.up,(oq,av,oc)] 123)) ((n:Int)+1) B.o);rw[K]at q;have Q:Hid (movE s j n (some m)=0):=(by show _=_;unfold movE;simp only[HN.o,L,K,HO.o,hO,hS];simp);have a2:Hid (movX s i j n a b (some m)=(movY s i j n a b (some m)).setX n (upP ((movY s i j n a b (some m)).nodes.getD n zN) j)):=(by show _=_;unfold movX;rw[HN.o,ze L]);clear K L hO hS;go_wp2_with fail
      refine q.o.mono ?_;rintro e w5 ⟨rfl,rfl⟩;have v:=za (aw.o Q.o);have p:=HM.o;unfold movR at p;rw[zb a8.o,Q.o,zb (fun I=>I rfl)]at p;have f:=za (H.o.below B.o);have a0:=za (oA f.o);obtain⟨qe,A⟩:=zD (tc ((movT s i j a b (some m)).dirD s j) (b,(n:Int)+1));rw[A.o]at p;have ah:=za p;clear p;go_wp2_with fail
      refine a0.o.mono ?_;rintro e w4 ⟨gt,T,rfl,ai,hT⟩;have aa:=za ai;have HT:Hid (TxAt w4 (w2.alloc (.cells #[O.k,O.m,O.u,O.g,O.s,O.l,O.up,(oq,av,oc)] 123)).heap.size F gt (gf,()) (tx0 s) T):=hT;generalize w2.alloc (.cells #[O.k,O.m,O.u,O.g,O.s,O.l,O.up,(oq,av,oc)] 123)=w3 at *
      have a3:=za (Zk f.o aa.o HT.o Vt i aP.o.2.2 a);clear ai hT S a9 e0 aZ g0 g1 g2 g3 g4 g5 g6 g7 m0 m1 m2 m3 m4 m5 m6 m7;go_wp2_with fail
      refine a3.o.mono ?_;rintro e w5 ⟨rfl,d5⟩;have G:=za (d5.old aa.o HT.o);obtain⟨T5,t5,u5,v5,k5⟩:=d5;have V:=za t5;clear t5 u5 v5 k5;obtain⟨o1,o2,o3⟩:=v.o.one m rfl;have bp:=za (Zk f.o G.o V.o o1 j o2 b);have b7:=za o3;clear o1 o2 o3;go_wp2_with fail
      refine bp.o.mono ?_;rintro e w6 ⟨rfl,d6⟩;have aI:=za (d6.old G.o V.o);obtain⟨T6,t6,u6,v6,k6⟩:=d6;have bv:=za (gQ f.o aI.o t6 m b7.o);have bB:=za t6;clear t6 u6 v6 k6;go_wp2_with fail
      refine bv.o.mono ?_;rintro e w7 ⟨rfl,d7⟩;have az:=za (d7.old aI.o bB.o);obtain⟨T7,t7,u7,v7,k7⟩:=d7;have aK:=za t7;clear t7 u7 v7 k7;have U:=za (ZX f.o az.o aK.o (fun r hr=>zo (f.o.fin r hr) az.o.size) v.o.room j _ _ v.o.dir (b,(n:Int)+1));rw[A.o]at U;go_wp2_with fail
      refine U.o.mono ?_;rintro e w8 ⟨rfl,d8⟩;have C:=za (d8.old az.o aK.o);by_cases hq:qe=0;case neg=>
       have b5:(qe==0)=false:=(by simpa using hq);have b6:(qe != 0)=true:=(by simpa using hq);have z:=za (t.o qe w8 (B.o.trans (C.o.mono B.o.size)) (by have d:=ah.o;rw[ze hq]at d;exact d));clear d8 hq;go_wp2;go_ret;exact⟨by rw[<-z.o.1];rfl,z.o.2⟩
      subst hq;rw[ze rfl]at d8;have ag:Hid (re=endE s (movX s i j n a b (some m))/\rs=endS s (movX s i j n a b (some m))):=(by have d:=ah.o;rw[zb (fun I=>I rfl)]at d;injection d with d h2;exact⟨d.symm,h2.symm⟩);obtain⟨T8,t8,u8,v8,k8⟩:=d8;have J:Hid (TxAt w8 w3 F gt (gf,()) (movY s i j n a b (some m)) T8):=t8;have ak:=za (v.o.run A.o);clear t8 u8 v8 k8;obtain⟨P,HP⟩:=zD ((movY s i j n a b (some m)).nodes.getD n zN);have be:=za (mr J.o n M P (by rw[<-HP.o];exact mv (by rw[J.o.len];exact M)));go_wp2_with fail
      refine be.o.mono ?_;rintro e w9 ⟨pq,pn,pc,rfl,aA,am⟩;have c4:=za am;have bx:=za aA;obtain⟨gb,ay⟩:=zD w9.heap.size;have ba:Hid ((w9.alloc (.cells #[P.k,P.m,P.u,P.g,P.s,P.l,P.up,(pq,pn,pc)] 123)).heap[gb]?=some (.cells #[P.k,P.m,P.u,P.g,P.s,P.l,P.up,(pq,pn,pc)] 123)):=(by rw[<-ay.o];exact zH);have ab:Hid (Below w8 w8 (w9.alloc (.cells #[P.k,P.m,P.u,P.g,P.s,P.l,.int .i64 (j+1),(pq,pn,pc)] 123))):=am.alloc am.size _;have aM:Hid (Below w9 w9 (w9.alloc (.cells #[P.k,P.m,P.u,P.g,P.s,P.l,.int .i64 (j+1),(pq,pn,pc)] 123))):=zB.alloc zL _;have aB:Hid ((w9.alloc (.cells #[P.k,P.m,P.u,P.g,P.s,P.l,.int .i64 (j+1),(pq,pn,pc)] 123)).heap[gb]?=some (.cells #[P.k,P.m,P.u,P.g,P.s,P.l,.int .i64 (j+1),(pq,pn,pc)] 123)):=(by rw[<-ay.o];exact zH);have z6:(w9.alloc (.cells #[P.k,P.m,P.u,P.g,P.s,P.l,P.up,(pq,pn,pc)] 123)).frozen? (gb,6)=false:=zF ba.o;have bA:=za (lP (J.o.below ab.o) n M (upP P j) pq pn pc (bx.o.below aM.o) ak.o.1);clear aA am
      go_upto_region 40 with fail
      rw[ay.o];generalize w9.alloc (.cells #[P.k,P.m,P.u,P.g,P.s,P.l,.int .i64 ((j:Int)+1),(pq,pn,pc)] 123)=cC at *
      obtain⟨r0,r1,r2,r3,r4,r5,r6,r7⟩:=uT aB.o;go_wp2_with fail
      refine bA.o.mono ?_;rintro e c7 ⟨rfl,aC⟩;have aO:=za (aC.old (C.o.trans (ab.o.mono C.o.size)) (J.o.below ab.o));obtain⟨cH,aD,bw,bg,bt⟩:=aC;have HE:=za (ms f.o aO.o (x:=movX s i j n a b (some m)) (by rw[a2.o,HP.o];exact aD) ak.o.2);clear aD bw bg bt r0 r1 r2 r3 r4 r5 r6 r7;go_wp2_with fail
      refine HE.o.mono ?_;rintro e bD ⟨rfl,ac⟩;have Z:=za (ac.after B.o);clear ac;go_wp2;go_ret;exact⟨by rw[ag.o.1];rfl,by rw[ag.o.2];exact Z.o⟩
    .have b1:(O.k==2)=false:=(by simpa using hO);have z:=za (t.o 12 _ B.o (by have d:=HM.o;unfold movR movE at d;simp only[HN.o,HO.o,L,hO]at d;rw[zb a8.o]at d;simpa using d));clear L hO;go_wp2;go_ret;exact⟨by rw[<-z.o.1];rfl,z.o.2⟩
   .have b0:(N.k==2)=false:=(by simpa using L);by_cases hO:O.k=2
    .have b1:(O.k==2)=true:=(by simp[hO]);have z:=za (t.o 12 _ B.o (by have d:=HM.o;unfold movR movE at d;simp only[HN.o,HO.o,L,hO]at d;rw[zb a8.o]at d;simpa using d));clear L hO;go_wp2;go_ret;exact⟨by rw[<-z.o.1];rfl,z.o.2⟩
    .have b1:(O.k==2)=false:=(by simpa using hO);have Q:Hid (movE s j n (some m)=0):=(by show _=_;unfold movE;simp only[HN.o,HO.o,L,hO];simp);have a2:Hid (movX s i j n a b (some m)=movY s i j n a b (some m)):=(by show _=_;unfold movX;rw[HN.o,zb L]);clear L hO;have v:=za (aw.o Q.o);have p:=HM.o;unfold movR at p;rw[zb a8.o,Q.o,zb (fun I=>I rfl)]at p;have f:=za (H.o.below B.o);have a0:=za (oA f.o);obtain⟨qe,A⟩:=zD (tc ((movT s i j a b (some m)).dirD s j) (b,(n:Int)+1));rw[A.o]at p;have ah:=za p;clear p;go_wp2_with fail
     refine a0.o.mono ?_;rintro e w4 ⟨gt,T,rfl,ai,hT⟩;have aa:=za ai;have HT:Hid (TxAt w4 (w2.alloc (.cells #[O.k,O.m,O.u,O.g,O.s,O.l,O.up,(oq,av,oc)] 123)).heap.size F gt (gf,()) (tx0 s) T):=hT;generalize w2.alloc (.cells #[O.k,O.m,O.u,O.g,O.s,O.l,O.up,(oq,av,oc)] 123)=w3 at *
     have a3:=za (Zk f.o aa.o HT.o Vt i aP.o.2.2 a);clear ai hT S a9 e0 aZ g0 g1 g2 g3 g4 g5 g6 g7 m0 m1 m2 m3 m4 m5 m6 m7;go_wp2_with fail
     refine a3.o.mono ?_;rintro e w5 ⟨rfl,d5⟩;have G:=za (d5.old aa.o HT.o);obtain⟨T5,t5,u5,v5,k5⟩:=d5;have V:=za t5;clear t5 u5 v5 k5;obtain⟨o1,o2,o3⟩:=v.o.one m rfl;have bp:=za (Zk f.o G.o V.o o1 j o2 b);have b7:=za o3;clear o1 o2 o3;go_wp2_with fail
     refine bp.o.mono ?_;rintro e w6 ⟨rfl,d6⟩;have aI:=za (d6.old G.o V.o);obtain⟨T6,t6,u6,v6,k6⟩:=d6;have bv:=za (gQ f.o aI.o t6 m b7.o);have bB:=za t6;clear t6 u6 v6 k6;go_wp2_with fail
     refine bv.o.mono ?_;rintro e w7 ⟨rfl,d7⟩;have az:=za (d7.old aI.o bB.o);obtain⟨T7,t7,u7,v7,k7⟩:=d7;have aK:=za t7;clear t7 u7 v7 k7;have U:=za (ZX f.o az.o aK.o (fun r hr=>zo (f.o.fin r hr) az.o.size) v.o.room j _ _ v.o.dir (b,(n:Int)+1));rw[A.o]at U;go_wp2_with fail
     refine U.o.mono ?_;rintro e w8 ⟨rfl,d8⟩;have C:=za (d8.old az.o aK.o);by_cases hq:qe=0;case neg=>
      have b5:(qe==0)=false:=(by simpa using hq);have b6:(qe != 0)=true:=(by simpa using hq);have z:=za (t.o qe w8 (B.o.trans (C.o.mono B.o.size)) (by have d:=ah.o;rw[ze hq]at d;exact d));clear d8 hq;go_wp2;go_ret;exact⟨by rw[<-z.o.1];rfl,z.o.2⟩
     subst hq;rw[ze rfl]at d8;have ag:Hid (re=endE s (movX s i j n a b (some m))/\rs=endS s (movX s i j n a b (some m))):=(by have d:=ah.o;rw[zb (fun I=>I rfl)]at d;injection d with d h2;exact⟨d.symm,h2.symm⟩);obtain⟨T8,t8,u8,v8,k8⟩:=d8;have J:Hid (TxAt w8 w3 F gt (gf,()) (movY s i j n a b (some m)) T8):=t8;have ak:=za (v.o.run A.o);clear t8 u8 v8 k8;have HE:=za (ms f.o C.o (x:=movX s i j n a b (some m)) (by rw[a2.o];exact J.o) ak.o.2);go_wp2_with fail
     refine HE.o.mono ?_;rintro e bD ⟨rfl,ac⟩;have Z:=za (ac.after B.o);clear ac;go_wp2;go_ret;exact⟨by rw[ag.o.1];rfl,by rw[ag.o.2];exact Z.o⟩
