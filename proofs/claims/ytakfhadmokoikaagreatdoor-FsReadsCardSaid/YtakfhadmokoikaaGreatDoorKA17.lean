import Derived.Test.YtakfhadmokoikaaGreatDoorKA16
set_option maxHeartbeats 0
set_option linter.all false
set_option maxRecDepth 100000
namespace Go.Proofs.YtakfhadmokoikaaGreatDoor
open Go.Proofs.Tryz Go.RowKit
variable {F:Nat->Prop} {d:Value} {k:Nat} {st:Dk} {w w' w1 w2:World}
section
variable {w : World} {gd gs gn : Nat} {wt : Value} {E : List (Nat×Value)} {st : Dk} {L k : Nat} {F : Nat->Prop}
theorem Lies.setS (h:Lies w gd gs gn wt E st L k F) (s:List Int) (t:s.length=L):Lies (w.setRow gs (u8s s).toArray) gd gs gn wt E {st with S:=s} L k F:=by
 obtain⟨o,r,q,j,p⟩:=h.ne_d;have a:∀i,i≠gs->(w.setRow gs (u8s s).toArray).heap[i]?=w.heap[i]? :=fun i d=>yZ w gs i _ d;exact {h with
  hd:=(a _ o).trans h.hd
  hs:=yi w gs _ _ _ _ h.hs
  hn:=(a _ (yF h.ne)).trans h.hn
  ls:=t
  own:=oT h.own fun b g=>a b (fun e=>j (by rw[g,e]))
  ent:=fun i n v d=>by obtain⟨l,D,f,m⟩:=h.ent i n v d;exact⟨l,D,f,m.keep (fun i c _ hs _ _=>a i hs) fun _ d=>d⟩
  fin:=fun i d=>by simpa using h.fin i d}
theorem Lies.setN (h:Lies w gd gs gn wt E st L k F) (s:List Int) (t:s.length=L):Lies (w.setRow gn (u8s s).toArray) gd gs gn wt E {st with N:=s} L k F:=by
 obtain⟨r,o,p,q,f⟩:=h.ne_d;have a:∀i,i≠gn->(w.setRow gn (u8s s).toArray).heap[i]?=w.heap[i]? :=fun i d=>yZ w gn i _ d;exact {h with
  hd:=(a _ o).trans h.hd
  hn:=yi w gn _ _ _ _ h.hn
  hs:=(a _ h.ne).trans h.hs
  ln:=t
  own:=oT h.own fun b j=>a b (fun e=>f (by rw[j,e]))
  ent:=fun i n v d=>by obtain⟨l,D,g,m⟩:=h.ent i n v d;exact⟨l,D,g,m.keep (fun i c _ _ hn _=>a i hn) fun _ d=>d⟩
  fin:=fun i d=>by simpa using h.fin i d}
theorem Lies.clearW (h:Lies w gd gs gn wt E st L k F):Lies (w.setCell (gd,2) (.slice none 0 0)) gd gs gn (.slice none 0 0) [] {st with W:=[]} L k F:=by
 obtain⟨e,d,j,l,g⟩:=h.ne_d;have a:∀i,i≠gd->(w.setCell (gd,2) (.slice none 0 0)).heap[i]?=w.heap[i]? :=fun i c=>yC w _ _ i c;exact {h with
  hd:=by have:=jE (i:=2) h.hd (.slice none 0 0);simpa using this
  hs:=(a _ (yF e)).trans h.hs
  hn:=(a _ (yF d)).trans h.hn
  own:=yW _ _ _ _
  fw:=fun b f=>by simp[Value.ownBlock]at f
  len:=rfl
  small:=by simp
  ent:=fun i n v c=>by simp at c
  fin:=fun i c=>by simpa[World.setCell]using h.fin i c}
theorem YZ {a b:List Int} (h:a.length=b.length):over a 0 b=b:=by unfold over;rw[xE,xj,yL,yP (by omega),xn]
theorem Lies.bytesS (h:Lies w gd gs gn wt E st L k F):vC w (gs,0,L,L) st.S:=qZ h.ls h.hs (by rw[zv (by have:=h.ls;simp[vO];omega)])
theorem Lies.bytesN (h:Lies w gd gs gn wt E st L k F):vC w (gn,0,L,L) st.N:=qZ h.ln h.hn (by rw[zv (by have:=h.ln;simp[vO];omega)])
theorem Lies.drew (h:Lies w gd gs gn wt E st L k F):Lies w.drew gd gs gn wt E st L k F:=h.keep (fun _ _=>rfl) zL
def pN (st:Dk):Dk:=if st.fu=0 then st else {S:=st.N,N:=st.N,W:=[],fu:=decF st.fu}
theorem NS (h:Lies w gd gs gn wt E st L k F):Calls prog 91 #[(gd,())] w fun e w'=>e=.returned (.tuple #[])/\Did (gd,()) (pN st) k F w w':=by
 have H:=Lib.hid h;by_cases g:st.fu=0
 .clear h;have b:=Lib.hid g;clear g;go_enter func91,ntmps91;go_wp2_with fail
  refine (X6 H.o b.o).mono ?_;rintro e w' ⟨rfl,rfl⟩;go_wp2
  go_end0
  refine⟨rfl,F,⟨gd,gs,gn,wt,E,L,rfl,?_⟩,fun _ j=>zt j,yK.refl _ _⟩;unfold pN;rw[ze b.o];exact H.o
 .clear h;have b:=Lib.hid g;clear g;go_enter func91,ntmps91;go_wp2_with fail
  refine (X5 H.o b.o).mono ?_;rintro e n ⟨rfl,a,i⟩;have c:=Lib.hid a;have q:=a.c0;have r:=a.c1;have d:Hid (st.S.length=L/\st.N.length=L/\L=64*k/\16<=k):=⟨a.ls,a.ln,a.hL,a.k0⟩;clear a;go_wp2
  go_still_tail 8,(by kernel_rfl)
  go_wp2_with fail
  rw[Uf _ 23 23 _ 5 u8sT jd gs 0 L L _ st.S st.N 5 c.o.drew.hs c.o.drew.bytesN (by have:=d.o;omega) (by have:=d.o;omega) (by have:=d.o;omega)];have e:over st.S 0 st.N=st.N:=YZ (by have:=d.o;omega);rw[e];have f:=c.o.drew.setS st.N d.o.2.1;have m:=Lib.hid f;have p:=f.z 2;have s:=f.c2;clear f e;go_wp2
  go_end0
  have l:=m.o.clearW;refine⟨rfl,F,⟨gd,gs,gn,.slice none 0 0,[],L,rfl,?_⟩,fun _ j=>zt j,?_⟩
  .unfold pN;rw[zb b.o];exact l
  .exact (i.drew.step (yK.setRow c.o.fs _)).step (yK.setCell c.o.fd _)
def tJ (k:Nat):Dk:={S:=List.replicate (64*k) 0,N:=List.replicate (64*k) 0,W:=[],fu:= -1}
def NewRes (k:Nat) (w:World) (e:Ending) (w':World):Prop:=
 ∃d F,e=.returned (.tuple #[d,()])/\uL w' d (tJ k) k F/\(∀i,F i->w.heap.size<=i)/\Below w w w'/\d≠.pointer none
theorem JP (w:World) (o:Obj):(w.alloc o).heap.size=w.heap.size+1:=by simp
theorem RE (w:World) (l gn:Nat) (m:l=w.heap.size/\gn=w.heap.size+1\/l=w.heap.size+1/\gn=w.heap.size) (L k:Nat) (Z:List Int) (o:L=64*k) (p:Z=List.replicate L 0) (q:16<=k) (r:k<=256):
 uL (((w.alloc (.cells (u8s Z).toArray 5)).alloc (.cells (u8s Z).toArray 5)).alloc (.cells #[(l,0,L,L),(gn,0,L,L),.slice none 0 0,(-1:Int)] 113)).drew
  (.pointer (some ⟨w.heap.size+1+1,0,none⟩)) (tJ k) k (fun i=>w.heap.size<=i/\i<w.heap.size+3):=by
 have d:(((w.alloc (.cells (u8s Z).toArray 5)).alloc (.cells (u8s Z).toArray 5)).alloc (.cells #[(l,0,L,L),(gn,0,L,L),.slice none 0 0,(-1:Int)] 113)).drew.heap[w.heap.size]?=some (.cells (u8s Z).toArray 5 (0,0)):=
  tf (tf (zT w _) _) _
 have c:(((w.alloc (.cells (u8s Z).toArray 5)).alloc (.cells (u8s Z).toArray 5)).alloc (.cells #[(l,0,L,L),(gn,0,L,L),.slice none 0 0,(-1:Int)] 113)).drew.heap[w.heap.size+1]?=some (.cells (u8s Z).toArray 5 (0,0)):=by have:=zT (w.alloc (.cells (u8s Z).toArray 5)) (.cells (u8s Z).toArray 5);simp only[JP]at this;exact tf this _
 have g:(((w.alloc (.cells (u8s Z).toArray 5)).alloc (.cells (u8s Z).toArray 5)).alloc (.cells #[(l,0,L,L),(gn,0,L,L),.slice none 0 0,(-1:Int)] 113)).drew.heap[w.heap.size+1+1]?=some (.cells #[(l,0,L,L),(gn,0,L,L),.slice none 0 0,(-1:Int)] 113):=by have:=zT ((w.alloc (.cells (u8s Z).toArray 5)).alloc (.cells (u8s Z).toArray 5)) (.cells #[(l,0,L,L),(gn,0,L,L),.slice none 0 0,(-1:Int)] 113);simp only[JP]at this;exact this
 have j:((((w.alloc (.cells (u8s Z).toArray 5)).alloc (.cells (u8s Z).toArray 5)).alloc (.cells #[(l,0,L,L),(gn,0,L,L),.slice none 0 0,(-1:Int)] 113)).drew).heap.size=w.heap.size+3:=by simp
 have a:Z=List.replicate (64*k) 0:=by rw[p,o]
 refine⟨_,l,gn,_,[],L,rfl,⟨by omega,by omega,by omega,by omega,g,?_,?_,by simp[tJ];omega,by simp[tJ];omega,o,q,r,yW _ _ _ _,fun b h=>by simp[Value.ownBlock]at h,rfl,by simp,fun i n v f=>by simp at f,fun i f=>by rw[j];omega,by simp[tJ],by simp[tJ]⟩⟩
 .have e:(tJ k).S=Z:=a.symm;rw[e];rcases m with⟨rfl,_⟩|⟨rfl,_⟩
  .exact d
  .exact c
 .have e:(tJ k).N=Z:=a.symm;rw[e];rcases m with⟨_,rfl⟩|⟨_,rfl⟩
  .exact c
  .exact d
theorem UY (k:Nat) (x:Int) (g:x=k) (h:16<=k) (j:k<=256) (w:World):Calls prog 43 #[x] w (NewRes k w):=by
 obtain⟨L,a⟩:=zA (64*k);obtain⟨Z,b⟩:=zA (List.replicate L (0:Int));have e:∀W:World,(Instr.makeSlice 23 (.int .i64 (x*64)) (.int .i64 (x*64))).run prog W=.ok (W.heap.size,0,L,L) (W.alloc (.cells (u8s Z).toArray 5)):=fun W=>by rw[b.o];exact jl L (x*64) (by rw[a.o];omega) (by rw[a.o];omega) W
 have c:16<=x:=by omega
 have f:x<=256:=by omega
 clear g;go_enter func43,ntmps43;go_wp2
 go_region
 all_goals
  go_wp2;go_ret2;refine⟨_,_,rfl,RE w _ _ (by omega) L k Z a.o b.o h j,fun i d=>d.1,?_,by simp⟩;exact (((zB.alloc zL _).alloc (by simp) _).alloc (by simp;omega) _).drew
end
theorem Qy: (prog.info? 115).map (fun i=>(i.zero,i.size,i.bytes))=some (some (.agg #[(),.slice none 0 0]),2,32):=by kernel_rfl
theorem Ui: prog.underlying 111=some (.slice 115):=by kernel_rfl
def tV (st:Dk) (n:Nat) (D:List Int):Dk:=if st.fu=0 then st else {S:=st.S,N:=putS st.N n D,W:=st.W++[(n,D)],fu:=decF st.fu}
def New64 (D:List Int) (w:World) (v:Value) (w':World):Prop:=
 ∃g cap cur,v=.slice (some ⟨g,0,none⟩) 64 cap/\w.heap.size<=g/\w'.heap[g]?=some (.cells cur 5)/\cur.toList.take 64=u8s D/\Below w w w'
theorem Yu (v:Value) (D:List Int) (w:World) (h:vC w v D) (l:D.length=64):Calls prog 87 #[v] w fun e w'=>∃v',e=.returned v'/\New64 D w v' w':=
 (jB v D w h (by omega) (by omega)).mono fun e w' ⟨v',c,g,b,a,d,j,f,k,i⟩=>⟨v',c,g,b,a,by rw[d,l],j.1,f,by rw[<-l];exact k,i⟩
theorem Ga (w:World) (o:Obj) (p:Addr) (h:p.block<w.heap.size):(w.alloc o).frozen? p=w.frozen? p:=World.frozen?_of_block (vj w o p.block h)
section
variable {w w' : World} {gd gs gn : Nat} {wt : Value} {E : List (Nat×Value)} {st : Dk} {L k : Nat} {F : Nat->Prop}
theorem Lies.wrote (h:Lies w gd gs gn wt E st L k F) (n:Nat) (hn:n<k) (D:List Int) (O:D.length=64) (hs:E.length<1000000) (B:Value) (H cap:Nat) (cur:Array Value) (Q:w.heap.size<=w'.heap.size)
 (P:∀i,i<w.heap.size->i≠gd->i≠gn->wt.ownBlock≠some i->w'.heap[i]?=w.heap[i]?)
 (J:w'.heap[gd]?=some (.cells #[(gs,0,L,L),(gn,0,L,L),B,st.fu] 113))
 (K:w'.heap[gn]?=some (.cells (u8s (putS st.N n D)).toArray 5 (0,0)))
 (C:w'.ownsRow 0 115 2 B (E.length+1) (nj E++[.int .i64 (n:Int),.slice (some ⟨H,0,none⟩) 64 cap]))
 (R:B.ownBlock=wt.ownBlock\/∀g,B.ownBlock=some g->w.heap.size<=g)
 (M:w.heap.size<=H) (G:w'.heap[H]?=some (.cells cur 5)) (I:cur.toList.take 64=u8s D):
 Lies w' gd gs gn B (E++[(n,.slice (some ⟨H,0,none⟩) 64 cap)]) {st with N:=putS st.N n D,W:=st.W++[(n,D)]} L k (fun i=>F i\/(w.heap.size<=i/\i<w'.heap.size)):=by
 obtain⟨x,A,z,s,y⟩:=h.ne_d;have r:=h.fin _ h.fs;have ln:=h.fin _ h.fn;have l:H<w'.heap.size:=xL G;have o:st.N.length=64*k:=by rw[h.ln,h.hL]
 exact {h with
  fd:=zt h.fd
  fs:=zt h.fs
  fn:=zt h.fn
  hd:=J
  hs:=(P _ r (yF x) h.ne s).trans h.hs
  hn:=K
  ln:=by rw[jn o hn O,h.hL]
  own:=by rw[IJ,zl];exact C
  fw:=fun b d=>by
   rcases R with e|e
   .exact zt (h.fw b (by rw[<-e];exact d))
   .have:=(C.lt b d).2;exact zu ⟨e b d,this⟩
  len:=by rw[zl,zl,h.len];rfl
  small:=by rw[zl];simp only[yz,xP];omega
  ent:=fun i m v a=>by
   by_cases f:i<E.length
   .rw[zO f]at a;obtain⟨t,q,p,u⟩:=h.ent i m v a;refine⟨t,q,?_,u.keep (fun i c a hs hn I=>P i (h.fin i a) (tj I h.hd (by decide)) hn ?_) fun i a=>zt a⟩
    .rw[zO (by rw[<-h.len];exact f)];exact p
    .exact rW h.own I (by decide)
   .have j:=(zy.1 a).1;rw[zl]at j;simp only[yz,xP]at j;have e:i=E.length:=(by omega);subst e;rw[zx zL,uF]at a;simp only[zj,zw,Prod.mk.injEq]at a;obtain⟨rfl,rfl⟩:=a;refine⟨hn,D,?_,H,cap,cur,rfl,O,zu ⟨M,l⟩,by omega,by omega,G,I⟩;rw[h.len,zx zL,uF];rfl
  fin:=fun i a=>by
   rcases a with a|a
   .exact zm (h.fin i a) Q
   .exact a.2}
theorem Lies.mid {w4:World} (h:Lies w gd gs gn wt E st L k F) (t:Below w w w2) {o:Obj} (v:(w2.alloc o).grownBy w4 wt.ownBlock) (u:Value):
 (∀i,i<w.heap.size->i≠gd->wt.ownBlock≠some i->(w4.setCell (gd,2) u).heap[i]?=w.heap[i]?) /\
 (w4.setCell (gd,2) u).heap[gd]?=some (.cells #[(gs,0,L,L),(gn,0,L,L),u,st.fu] 113) /\
 w.heap.size<=(w4.setCell (gd,2) u).heap.size/\yK F w (w4.setCell (gd,2) u):=by
 obtain⟨n,q,g,s,m⟩:=h.ne_d;have p:(w2.alloc o).heap.size=w2.heap.size+1:=by simp
 have l:=t.size;have j:=v.size;have a:∀i,i<w.heap.size->wt.ownBlock≠some i->w4.heap[i]?=w.heap[i]? :=fun i c b=>
  (v.block i (by omega) (yF b)).trans ((vj w2 o i (by omega)).trans (t.block i c))
 have e:=h.fin _ h.fd;refine⟨fun i c d b=>(yC w4 _ _ i d).trans (a i c b),?_,by simp[World.setCell];omega,?_⟩
 .have:=jE (i:=2) ((a gd e g).trans h.hd) u;simpa using this
 .refine ((yK.of_below t).step ((yK.alloc o).step (yK.grown v fun r f=>h.fw r f))).step (yK.setCell h.fd _)
theorem OH (h:Lies w gd gs gn wt E st L k F) (n:Nat) (hn:n<k) (v:Value) (D:List Int) (hD:D.length=64) (hb:∀w',yK F w w'->vC w' v D) (hs:E.length<1000000):
 Calls prog 88 #[(gd,()),n,v] w fun e w'=>e=.returned ()/\Did (gd,()) (tV st n D) k F w w':=by
 have H:=Lib.hid h;have HB:=Lib.hid hb;obtain⟨p,cp,hu⟩:∃p cp,v=.slice p 64 cp:=by
  have:=hb w (yK.refl _ _);obtain⟨_,⟨h0,_⟩|⟨g,o,a7,rfl,_⟩⟩:=this
  .omega
  .exact⟨_,a7,by rw[hD]⟩
 subst hu;have T:=Lib.hid hD;have h4:=h.k1;have hL:64*k<=L:=by have:=h.hL;omega
 have aK:L<=64*k:=by have:=h.hL;omega
 have aD:¬(k:Int)<=(n:Int):=by omega
 have aV:(0:Int)<=(n:Int):=by omega
 have aL:(n:Int)*64<=(L:Int):=by omega
 have aB:¬L=n*64:=by omega
 clear hb hD;by_cases hf:st.fu=0
 .clear h;have HF:=Lib.hid hf;clear hf;go_enter func88,ntmps88;go_wp2_with fail
  refine (VC H.o).mono ?_;rintro e w' ⟨rfl,rfl⟩;go_wp2_with fail
  refine (X6 H.o HF.o).mono ?_;rintro e w' ⟨rfl,rfl⟩;go_wp2;go_ret;refine⟨rfl,F,⟨gd,gs,gn,wt,E,L,rfl,?_⟩,fun _ M=>zt M,yK.refl _ _⟩;unfold tV;rw[ze HF.o];exact H.o
 .clear h;have HF:=Lib.hid hf;clear hf;obtain⟨i0,ak,Z,am,ag⟩:=xp Qy;have HI:=Lib.hid ak;have a8:=Lib.hid Z;have a9:=Lib.hid am;have ax:=Lib.hid ag;clear ak Z am ag;go_enter func88,ntmps88;go_wp2_with fail
  refine (VC H.o).mono ?_;rintro e w' ⟨rfl,rfl⟩;go_wp2_with fail
  refine (X5 H.o HF.o).mono ?_;rintro e B ⟨rfl,Q,O⟩;have s:=Lib.hid Q;have c2:=Q.c2;have z2:=Q.z 2;have J:gd<B.heap.size:=Q.fin _ Q.fd;have R:=Lib.hid Q.ne_d;clear Q;go_wp2
  go_region_law (first
   | (refine QJ ?_ 87 #[.tmp 28] #[23] ?_ (fun _ _=>by kernel_rfl) #[.slice p 64 cp] ?_ (New64 D B.drew) (Yu _ D B.drew (HB.o B.drew O.drew) T.o) ?_;(rfl);(rfl);(kernel_rfl);rintro v2 C ⟨q,d,A,rfl,ao,af,ai,f⟩;have k2:C.cell? (gd,2)=some wt:=(f.cell (p:=⟨gd,2,none⟩) J).trans c2;have f2:C.frozen? (gd,2)=false:=(f.frozen (p:=⟨gd,2,none⟩) J).trans z2;have kz:gd<C.heap.size:=zm J f.size;have kn:¬gd=C.heap.size:=nS kz;have ab:Hid (C.ownsRow 0 115 2 wt E.length (nj E)):=th s.o.drew.own f;have P:=Lib.hid af;have av:=Lib.hid ai;have ac:=Lib.hid f;clear af ai f)
   | (
    refine tr _ (by rfl) _ _ _ (by rfl) 0 115 i0 _ 2 32 Ui HI.o a8.o a9.o ax.o rfl (by omega) wt E.length (nj E) (by rfl) (ab.o.alloc _)
     ⟨C.heap.size,0,none⟩ 1 1 [.int .i64 (n:Int),.slice (some ⟨q,0,none⟩) 64 d] (by rfl) (by rfl) (xU (cs:=#[.int .i64 (n:Int),.slice (some ⟨q,0,none⟩) 64 d]) (t:=115) (fr:=(0,0)) (zT C _)) (by simp[Value.oneCell'])
     (by omega) (by unfold maxLen;omega) (by omega) (by simp) (C.heap.size+1) (by simp) ?_;intro j a u l c al aw
    have k4:u.cell? (gd,2)=some wt:=(by rw[c.cell_far _ (by simp;omega) (yF R.out.2.2.1),wk _ _ _ kz];exact k2);have f4:u.frozen? (gd,2)=false:=(by rw[c.frozen_far _ (by simp;omega) (yF R.out.2.2.1),Ga _ _ _ kz];exact f2);have ad:=Lib.hid l;have K:=Lib.hid c;have Y:=Lib.hid al;clear l c al))
  all_goals
   obtain⟨m1,m2,m3,m4⟩:=s.o.drew.mid ac.o K.o (j,0,(E.length+1),a);have M1:=Lib.hid m1;have M2:=Lib.hid m2;have M4:=Lib.hid m4;have G:=Y.o;have V:yK F w (u.setCell (gd,2) (j,0,(E.length+1),a)):=O.drew.step m4;have aj:wt.ownBlock≠some q:=rW ab.o P.o (by decide);have an:q≠gd:=(by have:B.heap.size<=q:=ao;omega);have m:(u.setCell (gd,2) (j,0,(E.length+1),a)).heap[q]?=some (.cells A 5):=
    (yC u _ _ q an).trans ((K.o.block q (by have:=xL P.o;simp;omega) (yF aj)).trans (tf P.o _))
   have X:(Value.slice (some ⟨j,0,none⟩) (E.length+1) a).ownBlock≠some gd:=by
    rcases G with e|e
    .intro e2;have e3:j=gd:=(by simpa[Value.ownBlock]using e2);exact R.out.2.2.1 (by rw[e,e3])
    .intro e2;have e3:j=gd:=(by simpa[Value.ownBlock]using e2);omega
   have y:(u.setCell (gd,2) (j,0,(E.length+1),a)).ownsRow 0 115 2 (j,0,(E.length+1),a) (E.length+1) (nj E++[.int .i64 (n:Int),.slice (some ⟨q,0,none⟩) 64 d]):=
    oT ad.o fun b hb=>yC u _ _ b (fun e=>X (by rw[hb,e]))
   have ap:(Value.slice (some ⟨j,0,none⟩) (E.length+1) a).ownBlock=wt.ownBlock\/∀g,(Value.slice (some ⟨j,0,none⟩) (E.length+1) a).ownBlock=some g->B.drew.heap.size<=g:=by
    rcases G with e|e
    .exact zt e.symm
    .refine zu fun g hg=>?_;have e3:j=g:=(by simpa[Value.ownBlock]using hg);have:=ac.o.size;omega
   have ay:gn<B.drew.heap.size:=s.o.drew.fin _ s.o.fn;have ae:=(m1 gn ay (yF R.out.2.1) R.out.2.2.2.2).trans s.o.drew.hn;generalize a0:u.setCell (gd,2) (j,0,(E.length+1),a)=r at *
   have U:=Lib.hid V;have ah:=Lib.hid m;have x:=Lib.hid y;have a3:=Lib.hid ap;have I:=Lib.hid ae;have c1:r.cell? (gd,1)=some (.slice (some ⟨gn,0,none⟩) L L):=zC m2;clear m1 m2 m4 V m y ap ae a0 G k4 f4 ad K Y aw aj X;go_wp2_with fail
   rw[Uf r 23 23 _ 5 u8sT jd gn (n*64) (L-n*64) (L-n*64) _ st.N D 5 I.o (HB.o r U.o) (by rw[T.o];omega) (by rw[T.o];omega) (by rw[T.o,s.o.ln];omega)];go_wp2;go_ret;have e:over st.N (n*64) D=putS st.N n D:=(by unfold over putS;rw[T.o,nT n 64]);rw[e];have az:=s.o.drew.wrote (w':=r.setRow gn (u8s (putS st.N n D)).toArray) n hn D T.o hs _ q d A (by rw[setRow_size];exact m3)
    (fun i M hd hn ar=>(yZ r gn i _ hn).trans (M1.out i M hd ar)) ((yZ r gn gd _ R.out.2.1).trans M2.out) (yi r gn _ _ _ _ I.o)
    (oT x.o fun b hb=>yZ r gn b _ (fun e=>rW x.o I.o (by decide) (by rw[hb,e]))) a3.o ao ((yZ r gn q _ (by omega)).trans ah.o) av.o
   have hW:tV st n D={S:=st.S,N:=putS st.N n D,W:=st.W++[(n,D)],fu:=decF st.fu}:=(by unfold tV;rw[zb HF.o]);rw[hW];refine⟨rfl,fun i=>F i\/(B.drew.heap.size<=i/\i<(r.setRow gn (u8s (putS st.N n D)).toArray).heap.size),⟨gd,gs,gn,_,_,L,rfl,az⟩,?_,U.o.step (yK.setRow s.o.fn _)⟩;rintro i (M|M)
   .exact zt M
   .exact zu (zr O.size M.1)
end
def j3 (K:List Bool):List Value:=K.map Value.bool
def YD (w:World) (v:Value) (K:List Bool):Prop:=xT w v 1 K.length (j3 K)
theorem OB (l:List Bool) (j:Nat) (a:j<l.length):(j3 l)[j]?=some (.bool l[j]):=by simp[j3,a]
def mo (S:List Int):List (Nat×List Int)->List Bool->List Int
 | [],_=>S
 | _::_,[]=>S
 | (n,D)::W,b::K=>mo (if b then putS S n D else S) W K
def kI (st:Dk) (K:List Bool):Dk:={S:=mo st.S st.W K,N:=mo st.S st.W K,W:=[],fu:= -1}
theorem Ij (S:List Int) (W:List (Nat×List Int)):mo S W []=S:=by cases W<;>rfl
section
variable {w w' : World} {gd gs gn : Nat} {wt : Value} {E : List (Nat×Value)} {st : Dk} {L k : Nat} {F : Nat->Prop}
theorem Lies.alloc (h:Lies w gd gs gn wt E st L k F) (o:Obj):Lies (w.alloc o) gd gs gn wt E st L k F:=
 h.keep (fun i a=>vj w o i (h.fin i a)) (by simp)
theorem N1 (h:Lies w gd gs gn wt E st L k F) (kv:Value) (K:List Bool) (hk:∀w',yK F w w'->YD w' kv K) (hK:K.length<=9223372036854775807):
 Calls prog 15 #[(gd,()),kv] w fun e w'=>e=.returned (.tuple #[])/\Did (gd,()) (kI st K) k F w w':=by
 have H:=Lib.hid h;have HK:=Lib.hid hk;obtain⟨M,y⟩:=zA K.length;obtain⟨p,cp,hu⟩:∃p cp,kv=.slice p M cp:=by
  obtain⟨_,⟨h0,a0,c0,rfl⟩|⟨g,o,az,rfl,_⟩⟩:=hk w (yK.refl _ _)
  .exact⟨a0,c0,by rw[y.o,h0]⟩
  .exact⟨_,az,by rw[y.o]⟩
 subst hu;rw[<-y.o]at hK;obtain⟨N,HN⟩:=zA E.length;obtain⟨q,cq,A,_⟩:=tR h.own;rw[<-HN.o]at A;subst A;have c2:=h.c2;have hs:=h.small;rw[<-HN.o]at hs;have h4:=h.k1;have hL:64*k<=L:=by have:=h.hL;omega
 have aQ:L<=64*k:=by have:=h.hL;omega
 clear hk h;go_enter func15,ntmps15;go_wp2;go_loopw [11] (fun i wr=>∃(j:Nat) (d:List Int),j<=N/\i=.int .i64 j/\Hid (mo d (st.W.drop j) (K.drop j)=mo st.S st.W K)/\Hid (Lies wr gd gs gn (q,N,cq) E {st with S:=d} L k F)/\Hid (yK F w wr)) (fun i _=>N-(intOf i).toNat);case atStart=>exact⟨0,st.S,ye _,rfl,rfl,H.o,yK.refl _ _⟩
 case round=>
  obtain⟨j,d,hj,rfl,HC,a,r⟩:=hrel;by_cases ao:j<N
  .have B:j<E.length:=(by rw[<-HN.o];exact ao);obtain⟨q',aP,Y,c⟩:=tR a.o.own;obtain⟨gw,hq,_,c⟩:=c (by omega);have e0:q=some ⟨gw,0,none⟩:=(by rw[<-hq];injection Y);subst e0;have hp:=JE E j B;obtain⟨n,hn⟩:=zA (E[j].1);obtain⟨v,A⟩:=zA (E[j].2);rw[<-hn.out,<-A.out]at hp;have d1:=c _ _ hp.1;have d2:=c _ _ hp.2;obtain⟨aw,D,hW,u,t,a7,av,Q,aW,aU,aI,U,V⟩:=a.o.ent j n v (by rw[hn.out,A.out];simp[B]);subst av;have m:=Lib.hid Q;have ag:=Lib.hid U;have ap:=Lib.hid V;have HW:Hid (st.W.drop j=(n,D)::st.W.drop (j+1)):=by
    have O:j<st.W.length:=(zy.1 hW).1;rw[xe O]
    congr 1
    rw[zf O]at hW;injection hW
   have c0:=a.o.c0;have aO:gd<wr.heap.size:=a.o.fin _ a.o.fd;have aM:¬gd=wr.heap.size:=(by omega);have aJ:gw<wr.heap.size:=zG d1;have aF:¬gw=wr.heap.size:=(by omega);have aR:(n:Int)*64<=(L:Int):=(by omega);have bb:(0:Int)<=(n:Int):=(by omega);have a5:¬L=n*64:=(by omega);have aG:(j:Int)<(N:Int):=(by omega);clear c hp hq Y hn A hW Q U V;by_cases ak:j<M
   .have I:j<K.length:=(by rw[<-y.o];exact ak);obtain⟨_,⟨h0,_⟩|⟨gk,ok,ck,P,J⟩⟩:=HK.o wr r.o
    .omega
    have e1:p=some ⟨gk,ok,none⟩:=(by injection P);subst e1;have k1:=J _ _ (OB K j I);obtain⟨b,hb⟩:=zA (K[j]);rw[<-hb.out]at k1;have Z:Hid (K.drop j=b::K.drop (j+1)):=(by rw[xe I,hb.out];exact rfl);have aZ:gk<wr.heap.size:=zG k1;have aB:¬gk=wr.heap.size:=(by omega);have T:(j:Int)<(M:Int):=(by omega);clear J P hb;cases b with
    | true=>
     have f:Hid (mo (putS d n D) (st.W.drop (j+1)) (K.drop (j+1))=mo st.S st.W K):=(by have:=HC.o;rw[HW.o,Z.o]at this;exact this);go_wp2;have x:=a.o.alloc (.cells #[n,.slice (some ⟨u,0,none⟩) 64 t] 115);have C:=r.o.step (yK.alloc (.cells #[n,.slice (some ⟨u,0,none⟩) 64 t] 115));have aa:=tf ag.o (.cells #[n,.slice (some ⟨u,0,none⟩) 64 t] 115);have a1:(wr.alloc (.cells #[n,.slice (some ⟨u,0,none⟩) 64 t] 115)).cell? (wr.heap.size,0)=some (.int .i64 (n:Int)):=zC (zT wr _);have a2:(wr.alloc (.cells #[n,.slice (some ⟨u,0,none⟩) 64 t] 115)).cell? (wr.heap.size,1)=some (.slice (some ⟨u,0,none⟩) 64 t):=zC (zT wr _);generalize wr.alloc (.cells #[n,.slice (some ⟨u,0,none⟩) 64 t] 115)=wq at *
     have X:=Lib.hid x;have al:=Lib.hid C;have ah:=Lib.hid aa;have a0:=x.c0;clear x C aa c0 d1 d2 k1;have am:=zW ((n:Int)*64);have aj:0<=(n:Int)*64:=(by omega);have ar:((n:Int)*64).toNat=n*64:=by omega
     go_still_tail 10,(by kernel_rfl)
     clear am aj ar;go_wp2_with fail
     rw[Uf _ 23 23 _ 5 u8sT jd gs (n*64) (L-n*64) (L-n*64) _ d D 5 X.o.drew.hs (qZ m.o ah.o ap.o) (by rw[m.o];omega) (by rw[m.o];omega) (by rw[m.o];have:=a.o.ls;simp only at this;rw[this];omega)];have e:over d (n*64) D=putS d n D:=(by unfold over putS;rw[m.o,nT n 64]);rw[e];have R:(putS d n D).length=L:=(by have h1:=a.o.ls;have s:=a.o.hL;simp only at h1;rw[jn (k:=k) (by rw[h1,s]) aw m.o,s]);clear e;have aq:=Lib.hid R;clear R;go_wp2;go_roundw;case rel=>exact⟨j+1,putS d n D,by omega,by go_num,f,X.o.drew.setS _ aq.o,al.o.drew.step (yK.setRow a.o.fs _)⟩
     case measure=>simp[intOf];omega
    | false=>
     have f:Hid (mo d (st.W.drop (j+1)) (K.drop (j+1))=mo st.S st.W K):=(by have:=HC.o;rw[HW.o,Z.o]at this;exact this);go_wp2;go_roundw;case rel=>exact⟨j+1,d,by omega,by go_num,f,a.o.alloc _,r.o.step (yK.alloc _)⟩
     case measure=>simp[intOf];omega
   .have f:Hid (mo d (st.W.drop (j+1)) (K.drop (j+1))=mo st.S st.W K):=(by have:=HC.o;rw[yP (l:=K) (by rw[<-y.o];omega),Ij]at this;rw[yP (l:=K) (by rw[<-y.o];omega),Ij];exact this);have T:¬(j:Int)<(M:Int):=(by omega);go_wp2;go_roundw;case rel=>exact⟨j+1,d,by omega,by go_num,f,a.o.alloc _,r.o.step (yK.alloc _)⟩
    case measure=>simp[intOf];omega
  .have f:Hid (d=mo st.S st.W K):=(by have:=HC.o;rw[yP (by rw[<-a.o.len,<-HN.o];omega)]at this;exact this);have c0:=a.o.c0;have c1:=a.o.c1;go_wp2
   go_still_tail 8,(by kernel_rfl)
   go_wp2_with fail
   have G:d.length=L:=a.o.ls;have au:st.N.length=L:=a.o.ln;have aK:=a.o.k0;rw[Uf _ 23 23 _ 5 u8sT jd gn 0 L L _ st.N d 5 a.o.drew.hn a.o.drew.bytesS (by omega) (by omega) (by omega)];have e:over st.N 0 d=d:=YZ (by omega);rw[e];have s:=a.o.drew.setN d G;have H2:=Lib.hid s;have z2:=s.z 2;have z3:=s.z 3;have d2:=s.c2;have d3:=s.c3;clear s e G au;go_wp2
   go_end0
   have h3:=H2.o.clearW.setFu (-1) (by omega) (by omega);refine⟨rfl,F,⟨gd,gs,gn,.slice none 0 0,[],L,rfl,?_⟩,fun _ hi=>zt hi,?_⟩
   .unfold kI;rw[<-f.o];exact h3
   .exact ((r.o.drew.step (yK.setRow a.o.fn _)).step (yK.setCell a.o.fd _)).step (yK.setCell a.o.fd _)
end
def puts (l:List (Int×ByteArray)):List Value:=l.flatMap fun x=>[.int .i64 x.1,.string x.2]
theorem RJ (st:Dk):(pN st).W.length<=st.W.length:=by unfold pN;split<;>simp
theorem Vl (st:Dk) (n:Nat) (D:List Int):(tV st n D).W.length<=st.W.length+1:=by unfold tV;split<;>simp
section
variable {w w' : World} {d : Value} {st : Dk} {k : Nat} {F : Nat->Prop}
theorem jx (h:uL w d st k F) (n:Nat) (g:n<k) (v:Value) (D:List Int) (i:D.length=64) (j:∀w',yK F w w'->vC w' v D) (l:st.W.length<1000000):
 Calls prog 88 #[d,n,v] w fun e w'=>e=.returned ()/\Did d (tV st n D) k F w w':=by
 obtain⟨b,c,a,f,E,L,rfl,h⟩:=h;exact OH h n g v D i j (by rw[h.len];exact l)
theorem LM (h:uL w d st k F):Calls prog 91 #[d] w fun e w'=>e=.returned (.tuple #[])/\Did d (pN st) k F w w':=by obtain⟨b,c,a,f,E,L,rfl,h⟩:=h;exact NS h
theorem Qa (h:uL w d st k F) (g:Value) (K:List Bool) (i:∀w',yK F w w'->YD w' g K) (j:K.length<=9223372036854775807):
 Calls prog 15 #[d,g] w fun e w'=>e=.returned (.tuple #[])/\Did d (kI st K) k F w w':=by
 obtain⟨b,c,a,f,E,L,rfl,h⟩:=h;exact N1 h g K i j
theorem mC (h:uL w d st k F):Calls prog 48 #[d] w fun e w'=>e=.returned k/\w=w':=by obtain⟨b,c,a,f,E,L,rfl,h⟩:=h;exact VC h
theorem gT (h:uL w d st k F) (n:Nat) (f:n<k):Calls prog 47 #[d,n] w (Ws (sec st.N n) w):=by obtain⟨b,c,a,e,E,L,rfl,h⟩:=h;exact Q4 h n f
theorem uL.ptr (h:uL w d st k F):∃a,d=.pointer (some a):=by obtain⟨c,e,b,f,E,L,rfl,h⟩:=h;exact⟨_,rfl⟩
theorem uL.lens (h:uL w d st k F):st.S.length=64*k/\st.N.length=64*k:=by obtain⟨b,c,a,e,E,L,rfl,h⟩:=h;exact⟨by rw[h.ls,h.hL],by rw[h.ln,h.hL]⟩
theorem lq.keep {D:List Int} {v:Value} (h:lq D w1 v w2) (k:∀i,F i->i<w1.heap.size):∀w',yK F w2 w'->vC w' v D:=fun w' c=>by obtain⟨g,e,b,rfl,⟨j,_⟩,a,d,_⟩:=h;exact qZ rfl ((c.block g (xL a) (fun f=>by have:=k g f;omega)).trans a) d
end
theorem uL.drew (h:uL w d st k F):uL w.drew d st k F:=h.keep (G:=fun _=>False) (yK.refl _ _).drew (fun _ _ h=>h)
theorem Did.keeps (h:Did d st k F w w'):yK F w w':=by obtain⟨_,_,_,h⟩:=h;exact h
theorem yK.cell (h:yK F w w') {g i:Nat} (a:g<w.heap.size) (b:¬F g):w'.cell? (g,i)=w.cell? (g,i):=vi (h.block g a b)
def Yy (w:World) (d:Value) (st:Dk) (k:Nat) (w':World):Prop:=∃F,uL w' d st k F/\(∀i,F i->w.heap.size<=i)/\Below w w w'
theorem Yy.did {st':Dk} (j:∀i,F i->w.heap.size<=i) (g:Below w w w1) (h:Did d st' k F w1 w2):Yy w d st' k w2:=by
 obtain⟨a,c,b,e⟩:=h;refine⟨a,c,fun i f=>?_,g.trans (e.to_below j g.size)⟩;rcases b i f with h|h
 .exact j i h
 .exact zr g.size h
def mT : ByteArray:=⟨#[114,105,110,103,1]⟩
def sV (k:Nat):List Int:=((over (List.replicate 64 0) 0 (bI mT)).set 5 ((k%256:Nat):Int)).set 6 ((k / 256:Nat):Int)
theorem fy (k:Nat):(sV k).length=64:=by unfold sV;rw[xG,xG];rfl
theorem YG (L:List Int) (i:Nat) (x:Int):(u8s L).toArray.setIfInBounds i (.int .u8 x)=(u8s (L.set i x)).toArray:=by unfold u8s;rw[uZ];simp
theorem gI (k:Nat) (K:k<=65535) (w:World):Calls prog 50 #[k] w (lT (sV k) w):=by
 obtain⟨Z,j⟩:=zA (List.replicate 64 (0:Int));have y:∀W:World,(Instr.makeSlice 23 (.int .i64 64) (.int .i64 64)).run prog W=.ok (.slice (some ⟨W.heap.size,0,none⟩) 64 64) (W.alloc (.cells (u8s Z).toArray 5)):=fun W=>by rw[j.o];exact jl 64 64 rfl (by omega) W
 have c:=La (P:=prog) (w.alloc (.cells (u8s Z).toArray 5)) 23 9 3 5 u8sT jd w 64 64 mT Z 5 (zT w _) (by rw[j.o];rfl);obtain⟨D,r⟩:=zD (over Z 0 ((bI mT).take 64));rw[r.o]at c;have v:D.length=64:=by rw[<-r.o,j.o];rfl
 obtain⟨b,d⟩:=zD ((w.alloc (.cells (u8s Z).toArray 5)).setRow w (u8s D).toArray);rw[d.o]at c;rw[show mT=⟨#[114,105,110,103,1]⟩ from rfl]at c;have e:b.heap[w.heap.size]?=some (.cells (u8s D).toArray 5 (0,0)):=by rw[<-d.o];exact yi _ _ _ _ _ _ (zT w _)
 have f:Below w w b:=by rw[<-d.o];have g:Below w w (w.alloc (.cells (u8s Z).toArray 5)):=zB.alloc zL _;exact⟨g.os,g.tape,g.output,by simp,fun i z=>(yZ _ _ i _ (by omega)).trans (g.block i z)⟩
 have q:∃x,b.cell? (w.heap.size,5)=some x:=⟨_,by rw[zC e,<-zP];exact sJ D 5 (by omega)⟩;have m:∃x,b.cell? (w.heap.size,6)=some x:=⟨_,by rw[zC e,<-zP];exact sJ D 6 (by omega)⟩;obtain⟨H,F⟩:=q;obtain⟨J,I⟩:=m;have E:b.frozen? (w.heap.size,5)=false:=zF e;have G:b.frozen? (w.heap.size,6)=false:=zF e;obtain⟨h,C⟩:∃a,IntKind.u8.wrap (k:Int)=a:=⟨_,rfl⟩;have u:=Lib.hid e;have p:=Lib.hid f;clear e f;go_enter func50,ntmps50;go_wp2;have l:((b.setCell (w.heap.size,5) (.int .u8 h)).setCell (w.heap.size,6) (.int .u8 ((k:Int) / 256))).heap[w.heap.size]?=some (.cells (u8s (sV k)).toArray 5 (0,0)):=by
  have B:h=((k%256:Nat):Int):=by rw[<-C];simp[IntKind.wrap,IntKind.bits,IntKind.signed]
  have t:=zX b w 5 (u8s D).toArray 5 (.int .u8 h) u.o;rw[YG]at t;have s:=zX _ w 6 _ 5 (.int .u8 ((k:Int) / 256)) t;rw[YG]at s;rw[s,B,<-r.o,j.o];have A:((k:Int) / 256)=((k / 256:Nat):Int):=by omega
  rw[A];rfl
 have n:Below w w ((b.setCell (w.heap.size,5) (.int .u8 h)).setCell (w.heap.size,6) (.int .u8 ((k:Int) / 256))):=(p.o.setCell zL _).setCell zL _;go_ret;refine⟨_,rfl,w.heap.size,64,(u8s (sV k)).toArray,by rw[fy];rfl,⟨zL,by rw[fy];omega⟩,l,?_,n⟩;show (u8s (sV k)).take _=_;rw[zv (by rw[vO];exact zL)]
