import Derived.Test.YtmanoiagchpelaaGreatDoorKA11
set_option maxHeartbeats 0
set_option linter.all false
set_option maxRecDepth 100000
namespace Go.Proofs.YtmanoiagchpelaaGreatDoor
open Go.Proofs.Tryz Go.RowKit
variable {F:Nat->Prop} {w w2:World}
section
variable {w : World} {gd gs gn : Nat} {wt : Value} {E : List (Nat×Value)} {st : Dk} {L k : Nat} {F : Nat->Prop}
theorem Lies.setS (h:Lies w gd gs gn wt E st L k F) (S') (s:S'.length=L):Lies (w.setRow gs (u8s S').toArray) gd gs gn wt E {st with S:=S'} L k F:=by
 obtain⟨o,r,q,j,p⟩:=h.ne_d;have a:∀i,i≠gs->(w.setRow gs (u8s S').toArray).heap[i]?=w.heap[i]? :=fun i d=>xh w gs i _ d;exact {h with
  hd:=(a _ o).trans h.hd
  hs:=yh w gs _ _ _ _ h.hs
  hn:=(a _ (yA h.ne)).trans h.hn
  ls:=s
  own:=oW h.own fun b g=>a b (fun e=>j (by rw[g,e]))
  ent:=fun i n v d=>by obtain⟨l,D,f,m⟩:=h.ent i n v d;exact⟨l,D,f,m.keep (fun i c _ hs _ _=>a i hs) fun _ d=>d⟩
  fin:=fun i d=>by simpa using h.fin i d}
theorem Lies.setN (h:Lies w gd gs gn wt E st L k F) (N') (s:N'.length=L):Lies (w.setRow gn (u8s N').toArray) gd gs gn wt E {st with N:=N'} L k F:=by
 obtain⟨r,o,p,q,f⟩:=h.ne_d;have a:∀i,i≠gn->(w.setRow gn (u8s N').toArray).heap[i]?=w.heap[i]? :=fun i d=>xh w gn i _ d;exact {h with
  hd:=(a _ o).trans h.hd
  hn:=yh w gn _ _ _ _ h.hn
  hs:=(a _ h.ne).trans h.hs
  ln:=s
  own:=oW h.own fun b j=>a b (fun e=>f (by rw[j,e]))
  ent:=fun i n v d=>by obtain⟨l,D,g,m⟩:=h.ent i n v d;exact⟨l,D,g,m.keep (fun i c _ _ hn _=>a i hn) fun _ d=>d⟩
  fin:=fun i d=>by simpa using h.fin i d}
theorem Lies.clearW (h:Lies w gd gs gn wt E st L k F):Lies (w.setCell (gd,2) (.slice none 0 0)) gd gs gn (.slice none 0 0) [] {st with W:=[]} L k F:=by
 obtain⟨e,d,j,l,g⟩:=h.ne_d;have a:∀i,i≠gd->(w.setCell (gd,2) (.slice none 0 0)).heap[i]?=w.heap[i]? :=fun i c=>yE w _ _ i c;exact {h with
  hd:=by have:=jW (i:=2) h.hd (.slice none 0 0);simpa using this
  hs:=(a _ (yA e)).trans h.hs
  hn:=(a _ (yA d)).trans h.hn
  own:=xd _ _ _ _
  fw:=fun b f=>by simp[Value.ownBlock]at f
  len:=rfl
  small:=by simp
  ent:=fun i n v c=>by simp at c
  fin:=fun i c=>by simpa[World.setCell]using h.fin i c}
theorem XF {a b:List Int} (h:a.length=b.length):over a 0 b=b:=by unfold over;rw[xH,yU,yO,yP (by omega),yX]
theorem Lies.bytesS (h:Lies w gd gs gn wt E st L k F):vQ w (gs,0,L,L) st.S:=pD h.ls h.hs (by rw[zv (by have:=h.ls;simp[uo];omega)])
theorem Lies.bytesN (h:Lies w gd gs gn wt E st L k F):vQ w (gn,0,L,L) st.N:=pD h.ln h.hn (by rw[zv (by have:=h.ln;simp[uo];omega)])
theorem Lies.drew (h:Lies w gd gs gn wt E st L k F):Lies w.drew gd gs gn wt E st L k F:=h.keep (fun _ _=>rfl) zL
def pU (st:Dk):Dk:=if st.fu=0 then st else {S:=st.N,N:=st.N,W:=[],fu:=decF st.fu}
theorem Mv (h:Lies w gd gs gn wt E st L k F):Calls prog 109 #[(gd,())] w fun e w'=>e=.returned (.tuple #[])/\Did (gd,()) (pU st) k F w w':=by
 have H:=za h;by_cases g:st.fu=0
 .clear h;have b:=za g;clear g;go_enter func109,ntmps109;go_wp2_with fail
  refine (WU H.o b.o).mono ?_;rintro e w' ⟨rfl,rfl⟩;go_wp2
  go_end0
  refine⟨rfl,F,⟨gd,gs,gn,wt,E,L,rfl,?_⟩,fun _ j=>zr j,yQ.refl _ _⟩;unfold pU;rw[ze b.o];exact H.o
 .clear h;have b:=za g;clear g;go_enter func109,ntmps109;go_wp2_with fail
  refine (WT H.o b.o).mono ?_;rintro e n ⟨rfl,a,i⟩;have c:=za a;have q:=a.c0;have r:=a.c1;have d:Hid (st.S.length=L/\st.N.length=L/\L=64*k/\16<=k):=⟨a.ls,a.ln,a.hL,a.k0⟩;clear a;go_wp2
  go_still_tail 8,(by kernel_rfl)
  go_wp2_with fail
  rw[U9 _ 56 56 _ 5 u8sT jw gs 0 L L _ st.S st.N 5 c.o.drew.hs c.o.drew.bytesN (by have:=d.o;omega) (by have:=d.o;omega) (by have:=d.o;omega)];have e:over st.S 0 st.N=st.N:=XF (by have:=d.o;omega);rw[e];have f:=c.o.drew.setS st.N d.o.2.1;have m:=za f;have p:=f.z 2;have s:=f.c2;clear f e;go_wp2
  go_end0
  have l:=m.o.clearW;refine⟨rfl,F,⟨gd,gs,gn,.slice none 0 0,[],L,rfl,?_⟩,fun _ j=>zr j,?_⟩
  .unfold pU;rw[zb b.o];exact l
  .exact (i.drew.step (yQ.setRow c.o.fs _)).step (yQ.setCell c.o.fd _)
def uZ (k:Nat):Dk:={S:=List.replicate (64*k) 0,N:=List.replicate (64*k) 0,W:=[],fu:= -1}
def NewRes (k:Nat) (w:World) (e:Ending) (w':World):Prop:=
 ∃d F,e=.returned (.tuple #[d,()])/\uS w' d (uZ k) k F/\(∀i,F i->w.heap.size<=i)/\Below w w w'/\d≠.pointer none
theorem Im (w:World) (o):(w.alloc o).heap.size=w.heap.size+1:=by simp
theorem Qp (w:World) (gs gn) (l:gs=w.heap.size/\gn=w.heap.size+1\/gs=w.heap.size+1/\gn=w.heap.size) (L k) (Z) (m:L=64*k) (o:Z=List.replicate L 0) (p:16<=k) (q:k<=256):
 uS (((w.alloc (.cells (u8s Z).toArray 5)).alloc (.cells (u8s Z).toArray 5)).alloc (.cells #[.slice (some ⟨gs,0,none⟩) L L,.slice (some ⟨gn,0,none⟩) L L,.slice none 0 0,(-1:Int)] 150)).drew
  (.pointer (some ⟨w.heap.size+1+1,0,none⟩)) (uZ k) k (fun i=>w.heap.size<=i/\i<w.heap.size+3):=by
 have d:(((w.alloc (.cells (u8s Z).toArray 5)).alloc (.cells (u8s Z).toArray 5)).alloc (.cells #[(gs,0,L,L),(gn,0,L,L),.slice none 0 0,(-1:Int)] 150)).drew.heap[w.heap.size]?=some (.cells (u8s Z).toArray 5 (0,0)):=
  tA (tA (zT w _) _) _
 have c:(((w.alloc (.cells (u8s Z).toArray 5)).alloc (.cells (u8s Z).toArray 5)).alloc (.cells #[(gs,0,L,L),(gn,0,L,L),.slice none 0 0,(-1:Int)] 150)).drew.heap[w.heap.size+1]?=some (.cells (u8s Z).toArray 5 (0,0)):=by have:=zT (w.alloc (.cells (u8s Z).toArray 5)) (.cells (u8s Z).toArray 5);simp only[Im]at this;exact tA this _
 have g:(((w.alloc (.cells (u8s Z).toArray 5)).alloc (.cells (u8s Z).toArray 5)).alloc (.cells #[(gs,0,L,L),(gn,0,L,L),.slice none 0 0,(-1:Int)] 150)).drew.heap[w.heap.size+1+1]?=some (.cells #[(gs,0,L,L),(gn,0,L,L),.slice none 0 0,(-1:Int)] 150):=by have:=zT ((w.alloc (.cells (u8s Z).toArray 5)).alloc (.cells (u8s Z).toArray 5)) (.cells #[(gs,0,L,L),(gn,0,L,L),.slice none 0 0,(-1:Int)] 150);simp only[Im]at this;exact this
 have j:((((w.alloc (.cells (u8s Z).toArray 5)).alloc (.cells (u8s Z).toArray 5)).alloc (.cells #[(gs,0,L,L),(gn,0,L,L),.slice none 0 0,(-1:Int)] 150)).drew).heap.size=w.heap.size+3:=by simp
 have a:Z=List.replicate (64*k) 0:=by rw[o,m]
 refine⟨_,gs,gn,_,[],L,rfl,⟨by omega,by omega,by omega,by omega,g,?_,?_,by simp[uZ];omega,by simp[uZ];omega,m,p,q,xd _ _ _ _,fun b h=>by simp[Value.ownBlock]at h,rfl,by simp,fun i n v f=>by simp at f,fun i f=>by rw[j];omega,by simp[uZ],by simp[uZ]⟩⟩
 .have e:(uZ k).S=Z:=a.symm;rw[e];rcases l with⟨rfl,_⟩|⟨rfl,_⟩
  .exact d
  .exact c
 .have e:(uZ k).N=Z:=a.symm;rw[e];rcases l with⟨_,rfl⟩|⟨_,rfl⟩
  .exact c
  .exact d
theorem TR (k:Nat) (x:Int) (g:x=k) (h:16<=k) (j:k<=256) (w:World):Calls prog 55 #[x] w (NewRes k w):=by
 obtain⟨L,a⟩:=zA (64*k);obtain⟨Z,b⟩:=zA (List.replicate L (0:Int));have e:∀W,(Instr.makeSlice 56 (.int .i64 (x*64)) (.int .i64 (x*64))).run prog W=.ok (.slice (some ⟨W.heap.size,0,none⟩) L L) (W.alloc (.cells (u8s Z).toArray 5)):=fun W=>by rw[b.o];exact jB L (x*64) (by rw[a.o];omega) (by rw[a.o];omega) W
 have c:16<=x:=by omega
 have f:x<=256:=by omega
 clear g;go_enter func55,ntmps55;go_wp2
 go_region
 all_goals
  go_wp2;go_ret2;refine⟨_,_,rfl,Qp w _ _ (by omega) L k Z a.o b.o h j,fun i d=>d.1,?_,by simp⟩;exact (((zB.alloc zL _).alloc (by simp) _).alloc (by simp;omega) _).drew
end
theorem Pd: (prog.info? 152).map (fun i=>(i.zero,i.size,i.bytes))=some (some (.agg #[(),.slice none 0 0]),2,32):=by kernel_rfl
theorem Tc: prog.underlying 148=some (.slice 152):=by kernel_rfl
def se (st:Dk) (n:Nat) (D:List Int):Dk:=if st.fu=0 then st else {S:=st.S,N:=putS st.N n D,W:=st.W++[(n,D)],fu:=decF st.fu}
def New64 (D:List Int) (w:World) (v:Value) (w':World):Prop:=
 ∃g cap cur,v=.slice (some ⟨g,0,none⟩) 64 cap/\w.heap.size<=g/\w'.heap[g]?=some (.cells cur 5)/\cur.toList.take 64=u8s D/\Below w w w'
theorem Xb (v) (D) (w) (h:vQ w v D) (l:D.length=64):Calls prog 134 #[v] w fun e w'=>∃v',e=.returned v'/\New64 D w v' w':=
 (Zt v D w h (by omega) (by omega)).mono fun e w' ⟨v',c,g,b,a,d,j,f,k,i⟩=>⟨v',c,g,b,a,by rw[d,l],j.1,f,by rw[<-l];exact k,i⟩
theorem GF (w:World) (o) (p) (h:p.block<w.heap.size):(w.alloc o).frozen? p=w.frozen? p:=World.frozen?_of_block (wX w o p.block h)
section
variable {w w' : World} {gd gs gn : Nat} {wt : Value} {E : List (Nat×Value)} {st : Dk} {L k : Nat} {F : Nat->Prop}
theorem Lies.wrote (h:Lies w gd gs gn wt E st L k F) (n) (hn:n<k) (D) (K:D.length=64) (hs:E.length<1000000) (wt') (g' cap) (cur) (O:w.heap.size<=w'.heap.size)
 (M:∀i,i<w.heap.size->i≠gd->i≠gn->wt.ownBlock≠some i->w'.heap[i]?=w.heap[i]?)
 (H:w'.heap[gd]?=some (.cells #[(gs,0,L,L),(gn,0,L,L),wt',st.fu] 150))
 (I:w'.heap[gn]?=some (.cells (u8s (putS st.N n D)).toArray 5 (0,0)))
 (B:w'.ownsRow 0 152 2 wt' (E.length+1) (mp E++[.int .i64 n,.slice (some ⟨g',0,none⟩) 64 cap]))
 (P:wt'.ownBlock=wt.ownBlock\/∀g,wt'.ownBlock=some g->w.heap.size<=g)
 (J:w.heap.size<=g') (C:w'.heap[g']?=some (.cells cur 5)) (G:cur.toList.take 64=u8s D):
 Lies w' gd gs gn wt' (E++[(n,.slice (some ⟨g',0,none⟩) 64 cap)]) {st with N:=putS st.N n D,W:=st.W++[(n,D)]} L k (fun i=>F i\/(w.heap.size<=i/\i<w'.heap.size)):=by
 obtain⟨x,A,z,s,y⟩:=h.ne_d;have r:=h.fin _ h.fs;have ln:=h.fin _ h.fn;have l:=xR C;have o:st.N.length=64*k:=by rw[h.ln,h.hL]
 exact {h with
  fd:=zr h.fd
  fs:=zr h.fs
  fn:=zr h.fn
  hd:=H
  hs:=(M _ r (yA x) h.ne s).trans h.hs
  hn:=I
  ln:=by rw[jE o hn K,h.hL]
  own:=by rw[Ge,zm];exact B
  fw:=fun b d=>by
   rcases P with e|e
   .exact zr (h.fw b (by rw[<-e];exact d))
   .have:=(B.lt b d).2;exact zu ⟨e b d,this⟩
  len:=by rw[zm,zm,h.len];rfl
  small:=by rw[zm];simp only[yx,xS];omega
  ent:=fun i m v a=>by
   by_cases f:i<E.length
   .rw[zX f]at a;obtain⟨t,q,p,u⟩:=h.ent i m v a;refine⟨t,q,?_,u.keep (fun i c a hs hn G=>M i (h.fin i a) (tC G h.hd (by decide)) hn ?_) fun i a=>zr a⟩
    .rw[zX (by rw[<-h.len];exact f)];exact p
    .exact qb h.own G (by decide)
   .have j:=(zJ.1 a).1;rw[zm]at j;simp only[yx,xS]at j;have e:i=E.length:=(by omega);subst e;rw[zy zL,uM]at a;simp only[zk,zw,Prod.mk.injEq]at a;obtain⟨rfl,rfl⟩:=a;refine⟨hn,D,?_,g',cap,cur,rfl,K,zu ⟨J,l⟩,by omega,by omega,C,G⟩;rw[h.len,zy zL,uM];rfl
  fin:=fun i a=>by
   rcases a with a|a
   .exact zo (h.fin i a) O
   .exact a.2}
theorem Lies.mid {w4:World} (h:Lies w gd gs gn wt E st L k F) (t:Below w w w2) {o:Obj} (v:(w2.alloc o).grownBy w4 wt.ownBlock) (u):
 (∀i,i<w.heap.size->i≠gd->wt.ownBlock≠some i->(w4.setCell (gd,2) u).heap[i]?=w.heap[i]?) /\
 (w4.setCell (gd,2) u).heap[gd]?=some (.cells #[(gs,0,L,L),(gn,0,L,L),u,st.fu] 150) /\
 w.heap.size<=(w4.setCell (gd,2) u).heap.size/\yQ F w (w4.setCell (gd,2) u):=by
 obtain⟨n,q,g,s,m⟩:=h.ne_d;have p:(w2.alloc o).heap.size=w2.heap.size+1:=by simp
 have l:=t.size;have j:=v.size;have a:∀i,i<w.heap.size->wt.ownBlock≠some i->w4.heap[i]?=w.heap[i]? :=fun i c b=>
  (v.block i (by omega) (yA b)).trans ((wX w2 o i (by omega)).trans (t.block i c))
 have e:=h.fin _ h.fd;refine⟨fun i c d b=>(yE w4 _ _ i d).trans (a i c b),?_,by simp[World.setCell];omega,?_⟩
 .have:=jW (i:=2) ((a gd e g).trans h.hd) u;simpa using this
 .refine ((yQ.of_below t).step ((yQ.alloc o).step (yQ.grown v fun r f=>h.fw r f))).step (yQ.setCell h.fd _)
theorem Nq (h:Lies w gd gs gn wt E st L k F) (n:Nat) (hn:n<k) (v:Value) (D:List Int) (hD:D.length=64) (hb:∀w',yQ F w w'->vQ w' v D) (hs:E.length<1000000):
 Calls prog 105 #[(gd,()),n,v] w fun e w'=>e=.returned ()/\Did (gd,()) (se st n D) k F w w':=by
 have H:=za h;have HB:=za hb;obtain⟨p,cp,hu⟩:∃p cp,v=.slice p 64 cp:=by
  have:=hb w (yQ.refl _ _);obtain⟨_,⟨h0,_⟩|⟨g,o,a7,rfl,_⟩⟩:=this
  .omega
  .exact⟨_,a7,by rw[hD]⟩
 subst hu;have Q:=za hD;have h4:=h.k1;have hL:64*k<=L:=by have:=h.hL;omega
 have aK:L<=64*k:=by have:=h.hL;omega
 have aD:¬k<=(n:Int):=by omega
 have aV:0<=(n:Int):=by omega
 have aL:n*64<=(L:Int):=by omega
 have aB:¬L=n*64:=by omega
 clear hb hD;by_cases hf:st.fu=0
 .clear h;have Z:=za hf;clear hf;go_enter func105,ntmps105;go_wp2_with fail
  refine (Up H.o).mono ?_;rintro e w' ⟨rfl,rfl⟩;go_wp2_with fail
  refine (WU H.o Z.o).mono ?_;rintro e w' ⟨rfl,rfl⟩;go_wp2;go_ret;refine⟨rfl,F,⟨gd,gs,gn,wt,E,L,rfl,?_⟩,fun _ J=>zr J,yQ.refl _ _⟩;unfold se;rw[ze Z.o];exact H.o
 .clear h;have Z:=za hf;clear hf;obtain⟨i0,aj,Y,al,af⟩:=xy Pd;have HI:=za aj;have a8:=za Y;have a9:=za al;have ax:=za af;clear aj Y al af;go_enter func105,ntmps105;go_wp2_with fail
  refine (Up H.o).mono ?_;rintro e w' ⟨rfl,rfl⟩;go_wp2_with fail
  refine (WT H.o Z.o).mono ?_;rintro e R ⟨rfl,O,K⟩;have s:=za O;have c2:=O.c2;have z2:=O.z 2;have C:=O.fin _ O.fd;have P:=za O.ne_d;clear O;go_wp2
  go_region_law (first
   | (refine Pq ?_ 134 #[.tmp 28] #[56] ?_ (fun _ _=>by kernel_rfl) #[.slice p 64 cp] ?_ (New64 D R.drew) (Xb _ D R.drew (HB.o R.drew K.drew) Q.o) ?_;(rfl);(rfl);(kernel_rfl);rintro v2 w2 ⟨q,d,y,rfl,an,ae,ah,f⟩;have k2:=(f.cell (p:=⟨gd,2,none⟩) C).trans c2;have f2:=(f.frozen (p:=⟨gd,2,none⟩) C).trans z2;have kz:=zo C f.size;have kn:¬gd=w2.heap.size:=nS kz;have aa:=za (tB s.o.drew.own f);have M:=za ae;have av:=za ah;have ab:=za f;clear ae ah f)
   | (
    refine tF _ (by rfl) _ _ _ (by rfl) 0 152 i0 _ 2 32 Tc HI.o a8.o a9.o ax.o rfl (by omega) wt E.length (mp E) (by rfl) (aa.o.alloc _)
     ⟨w2.heap.size,0,none⟩ 1 1 [.int .i64 (n:Int),.slice (some ⟨q,0,none⟩) 64 d] (by rfl) (by rfl) (xE (cs:=#[.int .i64 (n:Int),.slice (some ⟨q,0,none⟩) 64 d]) (t:=152) (fr:=(0,0)) (zT w2 _)) (by simp[Value.oneCell'])
     (by omega) (by unfold maxLen;omega) (by omega) (by simp) (w2.heap.size+1) (by simp) ?_;intro m a I j c ak aw
    have k4:I.cell? (gd,2)=some wt:=(by rw[c.cell_far _ (by simp;omega) (yA P.out.2.2.1),wN _ _ _ kz];exact k2);have f4:I.frozen? (gd,2)=false:=(by rw[c.frozen_far _ (by simp;omega) (yA P.out.2.2.1),GF _ _ _ kz];exact f2);have ac:=za j;have G:=za c;have X:=za ak;clear j c ak))
  all_goals
   obtain⟨m1,m2,m3,m4⟩:=s.o.drew.mid ab.o G.o (m,0,(E.length+1),a);have M1:=za m1;have M2:=za m2;have M4:=za m4;have A:=X.o;have U:=K.drew.step m4;have ai:=qb aa.o M.o (by decide);have am:q≠gd:=(by have:R.heap.size<=q:=an;omega);have l:(I.setCell (gd,2) (m,0,(E.length+1),a)).heap[q]?=some (.cells y 5):=
    (yE I _ _ q am).trans ((G.o.block q (by have:=xR M.o;simp;omega) (yA ai)).trans (tA M.o _))
   have V:(Value.slice (some ⟨m,0,none⟩) (E.length+1) a).ownBlock≠some gd:=by
    rcases A with e|e
    .intro e2;have e3:m=gd:=(by simpa[Value.ownBlock]using e2);exact P.out.2.2.1 (by rw[e,e3])
    .intro e2;have e3:m=gd:=(by simpa[Value.ownBlock]using e2);omega
   have x:(I.setCell (gd,2) (m,0,(E.length+1),a)).ownsRow 0 152 2 (m,0,(E.length+1),a) (E.length+1) (mp E++[.int .i64 n,.slice (some ⟨q,0,none⟩) 64 d]):=
    oW ac.o fun b hb=>yE I _ _ b (fun e=>V (by rw[hb,e]))
   have ao:(Value.slice (some ⟨m,0,none⟩) (E.length+1) a).ownBlock=wt.ownBlock\/∀g,(Value.slice (some ⟨m,0,none⟩) (E.length+1) a).ownBlock=some g->R.drew.heap.size<=g:=by
    rcases A with e|e
    .exact zr e.symm
    .refine zu fun g hg=>?_;have e3:m=g:=(by simpa[Value.ownBlock]using hg);have:=ab.o.size;omega
   have ay:=s.o.drew.fin _ s.o.fn;have ad:=(m1 gn ay (yA P.out.2.1) P.out.2.2.2.2).trans s.o.drew.hn;generalize a0:I.setCell (gd,2) (m,0,(E.length+1),a)=r at *
   have T:=za U;have ag:=za l;have u:=za x;have a3:=za ao;have B:=za ad;have c1:r.cell? (gd,1)=some (.slice (some ⟨gn,0,none⟩) L L):=zC m2;clear m1 m2 m4 U l x ao ad a0 A k4 f4 ac G X aw ai V;go_wp2_with fail
   rw[U9 r 56 56 _ 5 u8sT jw gn (n*64) (L-n*64) (L-n*64) _ st.N D 5 B.o (HB.o r T.o) (by rw[Q.o];omega) (by rw[Q.o];omega) (by rw[Q.o,s.o.ln];omega)];go_wp2;go_ret;have e:over st.N (n*64) D=putS st.N n D:=(by unfold over putS;rw[Q.o,nT n 64]);rw[e];have az:=s.o.drew.wrote (w':=r.setRow gn (u8s (putS st.N n D)).toArray) n hn D Q.o hs _ q d y (by rw[setRow_size];exact m3)
    (fun i J hd hn ar=>(xh r gn i _ hn).trans (M1.out i J hd ar)) ((xh r gn gd _ P.out.2.1).trans M2.out) (yh r gn _ _ _ _ B.o)
    (oW u.o fun b hb=>xh r gn b _ (fun e=>qb u.o B.o (by decide) (by rw[hb,e]))) a3.o an ((xh r gn q _ (by omega)).trans ag.o) av.o
   have hW:se st n D={S:=st.S,N:=putS st.N n D,W:=st.W++[(n,D)],fu:=decF st.fu}:=(by unfold se;rw[zb Z.o]);rw[hW];refine⟨rfl,fun i=>F i\/(R.drew.heap.size<=i/\i<(r.setRow gn (u8s (putS st.N n D)).toArray).heap.size),⟨gd,gs,gn,_,_,L,rfl,az⟩,?_,T.o.step (yQ.setRow s.o.fn _)⟩;rintro i (J|J)
   .exact zr J
   .exact zu (zt K.size J.1)
end
def iy (K:List Bool):List Value:=K.map Value.bool
def Xj (w:World) (v:Value) (K:List Bool):Prop:=wh w v 1 K.length (iy K)
theorem Nk (l) (j) (a:j<l.length):(iy l)[j]?=some (.bool l[j]):=by simp[iy,a]
def mq (S:List Int):List (Nat×List Int)->List Bool->List Int
 | [],_=>S
 | _::_,[]=>S
 | (n,D)::W,b::K=>mq (if b then putS S n D else S) W K
def kX (st:Dk) (K:List Bool):Dk:={S:=mq st.S st.W K,N:=mq st.S st.W K,W:=[],fu:= -1}
theorem IU (S) (W):mq S W []=S:=by cases W<;>rfl
section
variable {w w' : World} {gd gs gn : Nat} {wt : Value} {E : List (Nat×Value)} {st : Dk} {L k : Nat} {F : Nat->Prop}
theorem Lies.alloc (h:Lies w gd gs gn wt E st L k F) (o):Lies (w.alloc o) gd gs gn wt E st L k F:=
 h.keep (fun i a=>wX w o i (h.fin i a)) (by simp)
theorem ME (h:Lies w gd gs gn wt E st L k F) (kv) (K) (hk:∀w',yQ F w w'->Xj w' kv K) (hK:K.length<=9223372036854775807):
 Calls prog 46 #[(gd,()),kv] w fun e w'=>e=.returned (.tuple #[])/\Did (gd,()) (kX st K) k F w w':=by
 have H:=za h;have HK:=za hk;obtain⟨M,y⟩:=zA K.length;obtain⟨p,cp,hu⟩:∃p cp,kv=.slice p M cp:=by
  obtain⟨_,⟨h0,a0,c0,rfl⟩|⟨g,o,az,rfl,_⟩⟩:=hk w (yQ.refl _ _)
  .exact⟨a0,c0,by rw[y.o,h0]⟩
  .exact⟨_,az,by rw[y.o]⟩
 subst hu;rw[<-y.o]at hK;obtain⟨N,HN⟩:=zA E.length;obtain⟨q,cq,A,_⟩:=tV h.own;rw[<-HN.o]at A;subst A;have c2:=h.c2;have hs:=h.small;rw[<-HN.o]at hs;have h4:=h.k1;have hL:64*k<=L:=by have:=h.hL;omega
 have aQ:L<=64*k:=by have:=h.hL;omega
 clear hk h;go_enter func46,ntmps46;go_wp2;go_loopw [11] (fun i wr=>∃(j:Nat) (d:List Int),j<=N/\i=.int .i64 j/\Hid (mq d (st.W.drop j) (K.drop j)=mq st.S st.W K)/\Hid (Lies wr gd gs gn (q,N,cq) E {st with S:=d} L k F)/\Hid (yQ F w wr)) (fun i _=>N-(intOf i).toNat);case atStart=>exact⟨0,st.S,ye _,rfl,rfl,H.o,yQ.refl _ _⟩
 case round=>
  obtain⟨j,d,hj,rfl,HC,a,r⟩:=hrel;by_cases ao:j<N
  .have B:j<E.length:=(by rw[<-HN.o];exact ao);obtain⟨q',aP,Y,c⟩:=tV a.o.own;obtain⟨gw,hq,_,c⟩:=c (by omega);have e0:q=some ⟨gw,0,none⟩:=(by rw[<-hq];injection Y);subst e0;have hp:=Ib E j B;obtain⟨n,hn⟩:=zA (E[j].1);obtain⟨v,A⟩:=zA (E[j].2);rw[<-hn.out,<-A.out]at hp;have d1:=c _ _ hp.1;have d2:=c _ _ hp.2;obtain⟨aw,D,hW,u,t,a7,av,Q,aW,aU,aI,U,V⟩:=a.o.ent j n v (by rw[hn.out,A.out];simp[B]);subst av;have m:=za Q;have ag:=za U;have ap:=za V;have HW:Hid (st.W.drop j=(n,D)::st.W.drop (j+1)):=by
    have O:j<st.W.length:=(zJ.1 hW).1;rw[xp O]
    congr 1
    rw[zh O]at hW;injection hW
   have c0:=a.o.c0;have aO:=a.o.fin _ a.o.fd;have aM:¬gd=wr.heap.size:=(by omega);have aJ:gw<wr.heap.size:=zG d1;have aF:¬gw=wr.heap.size:=(by omega);have aR:n*64<=(L:Int):=(by omega);have bb:0<=(n:Int):=(by omega);have a5:¬L=n*64:=(by omega);have aG:j<(N:Int):=(by omega);clear c hp hq Y hn A hW Q U V;by_cases ak:j<M
   .have I:j<K.length:=(by rw[<-y.o];exact ak);obtain⟨_,⟨h0,_⟩|⟨gk,ok,ck,P,J⟩⟩:=HK.o wr r.o
    .omega
    have e1:p=some ⟨gk,ok,none⟩:=(by injection P);subst e1;have k1:=J _ _ (Nk K j I);obtain⟨b,hb⟩:=zA (K[j]);rw[<-hb.out]at k1;have Z:Hid (K.drop j=b::K.drop (j+1)):=(by rw[xp I,hb.out];exact rfl);have aZ:gk<wr.heap.size:=zG k1;have aB:¬gk=wr.heap.size:=(by omega);have T:j<(M:Int):=(by omega);clear J P hb;cases b with
    | true=>
     have f:Hid (mq (putS d n D) (st.W.drop (j+1)) (K.drop (j+1))=mq st.S st.W K):=(by have:=HC.o;rw[HW.o,Z.o]at this;exact this);go_wp2;have x:=a.o.alloc (.cells #[n,.slice (some ⟨u,0,none⟩) 64 t] 152);have C:=r.o.step (yQ.alloc (.cells #[n,.slice (some ⟨u,0,none⟩) 64 t] 152));have aa:=tA ag.o (.cells #[n,.slice (some ⟨u,0,none⟩) 64 t] 152);have a1:(wr.alloc (.cells #[n,.slice (some ⟨u,0,none⟩) 64 t] 152)).cell? (wr.heap.size,0)=some (.int .i64 n):=zC (zT wr _);have a2:(wr.alloc (.cells #[n,.slice (some ⟨u,0,none⟩) 64 t] 152)).cell? (wr.heap.size,1)=some (.slice (some ⟨u,0,none⟩) 64 t):=zC (zT wr _);generalize wr.alloc (.cells #[n,.slice (some ⟨u,0,none⟩) 64 t] 152)=wq at *
     have X:=za x;have al:=za C;have ah:=za aa;have a0:=x.c0;clear x C aa c0 d1 d2 k1;have am:=zW (n*64) (by omega);have aj:0<=(n:Int)*64:=(by omega);have ar:((n:Int)*64).toNat=n*64:=by omega
     go_still_tail 10,(by kernel_rfl)
     clear am aj ar;go_wp2_with fail
     rw[U9 _ 56 56 _ 5 u8sT jw gs (n*64) (L-n*64) (L-n*64) _ d D 5 X.o.drew.hs (pD m.o ah.o ap.o) (by rw[m.o];omega) (by rw[m.o];omega) (by rw[m.o];have:=a.o.ls;simp only at this;rw[this];omega)];have e:over d (n*64) D=putS d n D:=(by unfold over putS;rw[m.o,nT n 64]);rw[e];have R:(putS d n D).length=L:=(by have h1:=a.o.ls;have s:=a.o.hL;simp only at h1;rw[jE (k:=k) (by rw[h1,s]) aw m.o,s]);clear e;have aq:=za R;clear R;go_wp2;go_roundw;case rel=>exact⟨j+1,putS d n D,by omega,by go_num,f,X.o.drew.setS _ aq.o,al.o.drew.step (yQ.setRow a.o.fs _)⟩
     case measure=>simp[intOf];omega
    | false=>
     have f:Hid (mq d (st.W.drop (j+1)) (K.drop (j+1))=mq st.S st.W K):=(by have:=HC.o;rw[HW.o,Z.o]at this;exact this);go_wp2;go_roundw;case rel=>exact⟨j+1,d,by omega,by go_num,f,a.o.alloc _,r.o.step (yQ.alloc _)⟩
     case measure=>simp[intOf];omega
   .have f:Hid (mq d (st.W.drop (j+1)) (K.drop (j+1))=mq st.S st.W K):=(by have:=HC.o;rw[yP (l:=K) (by rw[<-y.o];omega),IU]at this;rw[yP (l:=K) (by rw[<-y.o];omega),IU];exact this);have T:¬j<(M:Int):=(by omega);go_wp2;go_roundw;case rel=>exact⟨j+1,d,by omega,by go_num,f,a.o.alloc _,r.o.step (yQ.alloc _)⟩
    case measure=>simp[intOf];omega
  .have f:Hid (d=mq st.S st.W K):=(by have:=HC.o;rw[yP (by rw[<-a.o.len,<-HN.o];omega)]at this;exact this);have c0:=a.o.c0;have c1:=a.o.c1;go_wp2
   go_still_tail 8,(by kernel_rfl)
   go_wp2_with fail
   have G:d.length=L:=a.o.ls;have au:st.N.length=L:=a.o.ln;have aK:=a.o.k0;rw[U9 _ 56 56 _ 5 u8sT jw gn 0 L L _ st.N d 5 a.o.drew.hn a.o.drew.bytesS (by omega) (by omega) (by omega)];have e:over st.N 0 d=d:=XF (by omega);rw[e];have s:=a.o.drew.setN d G;have H2:=za s;have z2:=s.z 2;have z3:=s.z 3;have d2:=s.c2;have d3:=s.c3;clear s e G au;go_wp2
   go_end0
   have h3:=H2.o.clearW.setFu (-1) (by omega) (by omega);refine⟨rfl,F,⟨gd,gs,gn,.slice none 0 0,[],L,rfl,?_⟩,fun _ hi=>zr hi,?_⟩
   .unfold kX;rw[<-f.o];exact h3
   .exact ((r.o.drew.step (yQ.setRow a.o.fn _)).step (yQ.setCell a.o.fd _)).step (yQ.setCell a.o.fd _)
end
def puts (l:List (Int×ByteArray)):List Value:=l.flatMap fun x=>[.int .i64 x.1,.string x.2]
theorem Qu (st):(pU st).W.length<=st.W.length:=by unfold pU;split<;>simp
theorem V6 (st) (n) (D):(se st n D).W.length<=st.W.length+1:=by unfold se;split<;>simp
section
variable {w w' : World} {d : Value} {st : Dk} {k : Nat} {F : Nat->Prop}
theorem jM (h:uS w d st k F) (n) (g:n<k) (v) (D) (i:D.length=64) (j:∀w',yQ F w w'->vQ w' v D) (l:st.W.length<1000000):
 Calls prog 105 #[d,.int .i64 n,v] w fun e w'=>e=.returned ()/\Did d (se st n D) k F w w':=by
 obtain⟨b,c,a,f,E,L,rfl,h⟩:=h;exact Nq h n g v D i j (by rw[h.len];exact l)
theorem fJ (h:uS w d st k F):Calls prog 109 #[d] w fun e w'=>e=.returned (.tuple #[])/\Did d (pU st) k F w w':=by obtain⟨b,c,a,f,E,L,rfl,h⟩:=h;exact Mv h
theorem QQ (h:uS w d st k F) (kv) (K) (g:∀w',yQ F w w'->Xj w' kv K) (i:K.length<=9223372036854775807):
 Calls prog 46 #[d,kv] w fun e w'=>e=.returned (.tuple #[])/\Did d (kX st K) k F w w':=by
 obtain⟨b,c,a,f,E,L,rfl,h⟩:=h;exact ME h kv K g i
theorem mH (h:uS w d st k F):Calls prog 93 #[d] w fun e w'=>e=.returned k/\w=w':=by obtain⟨b,c,a,f,E,L,rfl,h⟩:=h;exact Up h
theorem Zb (h:uS w d st k F) (n) (f:n<k):Calls prog 92 #[d,.int .i64 n] w (Vp (sec st.N n) w):=by obtain⟨b,c,a,e,E,L,rfl,h⟩:=h;exact PK h n f
theorem uS.ptr (h:uS w d st k F):∃a,d=.pointer (some a):=by obtain⟨c,e,b,f,E,L,rfl,h⟩:=h;exact⟨_,rfl⟩
theorem uS.lens (h:uS w d st k F):st.S.length=64*k/\st.N.length=64*k:=by obtain⟨b,c,a,e,E,L,rfl,h⟩:=h;exact⟨by rw[h.ls,h.hL],by rw[h.ln,h.hL]⟩
theorem lF.keep {D:List Int} {v:Value} {w1:World} (h:lF D w1 v w2) (k:∀i,F i->i<w1.heap.size):∀w',yQ F w2 w'->vQ w' v D:=fun w' c=>by obtain⟨g,e,b,rfl,⟨j,_⟩,a,d,_⟩:=h;exact pD rfl ((c.block g (xR a) (fun f=>by have:=k g f;omega)).trans a) d
end
theorem uS.drew {d:Value} {st:Dk} {k:Nat} (h:uS w d st k F):uS w.drew d st k F:=h.keep (G:=fun _=>False) (yQ.refl _ _).drew (fun _ _ h=>h)
theorem yQ.cell {w':World} (h:yQ F w w') {g i:Nat} (a:g<w.heap.size) (b:¬F g):w'.cell? (g,i)=w.cell? (g,i):=uD (h.block g a b)
def mY : ByteArray:=⟨#[114,105,110,103,1]⟩
def rB (k:Nat):List Int:=((over (List.replicate 64 0) 0 (bI mY)).set 5 ((k%256:Nat))).set 6 ((k / 256:Nat))
theorem Zq (k):(rB k).length=64:=by unfold rB;rw[xK,xK];rfl
theorem Xl (L) (i) (x):(u8s L).toArray.setIfInBounds i (.int .u8 x)=(u8s (L.set i x)).toArray:=by unfold u8s;rw[th];simp
theorem fy (k:Nat) (K:k<=65535) (w):Calls prog 95 #[k] w (l7 (rB k) w):=by
 obtain⟨Z,j⟩:=zA (List.replicate 64 (0:Int));have y:∀W,(Instr.makeSlice 56 (.int .i64 64) (.int .i64 64)).run prog W=.ok (.slice (some ⟨W.heap.size,0,none⟩) 64 64) (W.alloc (.cells (u8s Z).toArray 5)):=fun W=>by rw[j.o];exact jB 64 64 rfl (by omega) W
 have c:=LS (P:=prog) (w.alloc (.cells (u8s Z).toArray 5)) 56 9 3 5 u8sT jw w 64 64 mY Z 5 (zT w _) (by rw[j.o];rfl);obtain⟨D,r⟩:=zD (over Z 0 ((bI mY).take 64));rw[r.o]at c;have v:D.length=64:=by rw[<-r.o,j.o];rfl
 obtain⟨b,d⟩:=zD ((w.alloc (.cells (u8s Z).toArray 5)).setRow w (u8s D).toArray);rw[d.o]at c;rw[show mY=⟨#[114,105,110,103,1]⟩ from rfl]at c;have e:b.heap[w.heap.size]?=some (.cells (u8s D).toArray 5 (0,0)):=by rw[<-d.o];exact yh _ _ _ _ _ _ (zT w _)
 have f:Below w w b:=by rw[<-d.o];have g:Below w w (w.alloc (.cells (u8s Z).toArray 5)):=zB.alloc zL _;exact⟨g.os,g.tape,g.output,by simp,fun i z=>(xh _ _ i _ (by omega)).trans (g.block i z)⟩
 have q:∃x,b.cell? (w.heap.size,5)=some x:=⟨_,by rw[zC e,<-zO];exact qg D 5 (by omega)⟩;have m:∃x,b.cell? (w.heap.size,6)=some x:=⟨_,by rw[zC e,<-zO];exact qg D 6 (by omega)⟩;obtain⟨H,F⟩:=q;obtain⟨J,I⟩:=m;have E:b.frozen? (w.heap.size,5)=false:=zF e;have G:b.frozen? (w.heap.size,6)=false:=zF e;obtain⟨h,C⟩:∃a,IntKind.u8.wrap (k:Int)=a:=⟨_,rfl⟩;have u:=za e;have p:=za f;clear e f;go_enter func95,ntmps95;go_wp2;have l:((b.setCell (w.heap.size,5) (.int .u8 h)).setCell (w.heap.size,6) (.int .u8 (k / 256))).heap[w.heap.size]?=some (.cells (u8s (rB k)).toArray 5 (0,0)):=by
  have B:h=((k%256:Nat)):=by rw[<-C];simp[IntKind.wrap,IntKind.bits,IntKind.signed]
  have t:=yb b w 5 (u8s D).toArray 5 (.int .u8 h) u.o;rw[Xl]at t;have s:=yb _ w 6 _ 5 (.int .u8 ((k:Int) / 256)) t;rw[Xl]at s;rw[s,B,<-r.o,j.o];have A:(k / 256)=((k / 256:Nat):Int):=by omega
  rw[A];rfl
 have n:Below w w ((b.setCell (w.heap.size,5) (.int .u8 h)).setCell (w.heap.size,6) (.int .u8 (k / 256))):=(p.o.setCell zL _).setCell zL _;go_ret;refine⟨_,rfl,w.heap.size,64,(u8s (rB k)).toArray,by rw[Zq];rfl,⟨zL,by rw[Zq];omega⟩,l,?_,n⟩;show (u8s (rB k)).take _=_;rw[zv (by rw[uo];exact zL)]
