import Derived.Test.YtakfhadmokoikaaGreatDoorKA29
set_option maxHeartbeats 0
set_option linter.all false
set_option maxRecDepth 100000
namespace Go.Proofs.YtakfhadmokoikaaGreatDoor
open Go.Proofs.Tryz Go.RowKit
variable {B b gl k kd:Nat} {D:List Int} {E:List Jw} {F G G':Nat->Prop} {L:List Rb} {W W' w:World} {a:Addr} {sq:Int} {st:Dk} {v:Value} {x:Jw}
def CS (kd:Nat) (w:World) (a:Addr) (gl:Nat) (F:Nat->Prop) (st:Dk) (sq:Int) (G:Nat->Prop) (W:World):Prop:=
 ∃F',uL W (.pointer (some a)) st kd F'/\(∀i,F' i->F i\/w.heap.size<=i)/\(∀i,G i->i<W.heap.size/\w.heap.size<=i/\¬F' i)/\yK (fun i=>F i\/i=gl) w W/\W.heap[gl]?=some (.cells (logC a sq) 159)
section
variable {kd : Nat} {w : World} {a : Addr} {gl : Nat} {F : Nat->Prop} {st st' : Dk} {sq : Int} {G : Nat->Prop} {W W' : World}
theorem CS.did (h:CS kd w a gl F st sq G W) (r:¬F gl/\gl<w.heap.size) {F':Nat->Prop} (q:∀i,F' i->F i\/w.heap.size<=i) (s:∀i,G i->¬F' i) (t:Did (.pointer (some a)) st' kd F' W W'):CS kd w a gl F st' sq G W'/\∀i,G i->W'.heap[i]?=W.heap[i]? :=by
 obtain⟨n,p,o,k,g,j⟩:=h;obtain⟨m,l,f,d⟩:=t;have c:∀i,G i->i<W.heap.size/\w.heap.size<=i:=fun i b=>⟨(k i b).1,(k i b).2.1⟩;refine⟨⟨m,l,fun i b=>?_,fun i b=>⟨zm (c i b).1 d.size,(c i b).2,fun e=>?_⟩,g.trans d (fun i b=>?_),?_⟩,fun i b=>d.block i (c i b).1 (s i b)⟩
 .rcases f i b with h|h
  .exact q i h
  .exact zu (zr g.size h)
 .rcases f i e with h|h
  .exact s i b h
  .have:=(c i b).1;omega
 .rcases q i b with h|h
  .exact zt (zt h)
  .exact zu h
 .refine (d.block gl (xL j) (fun e=>?_)).trans j;rcases q gl e with h|h
  .exact r.1 h
  .omega
theorem CS.mem (h:CS kd w a gl F st sq G W) (p:¬F gl/\gl<w.heap.size) (o:yK G W W'):CS kd w a gl F st sq (fun i=>G i\/(W.heap.size<=i/\i<W'.heap.size)) W':=by
 obtain⟨k,f,l,c,e,g⟩:=h;refine⟨k,f.keep o (fun i b d=>(c i d).2.2 b),l,fun i b=>?_,e.trans o (fun i b=>zu (c i b).2.1),(o.block gl (xL g) (fun d=>by have:=(c gl d).2.1;omega)).trans g⟩;rcases b with b|⟨j,m⟩
 .exact⟨zm (c i b).1 o.size,(c i b).2.1,(c i b).2.2⟩
 .exact⟨m,zr e.size j,fun n=>by have:=f.fin i n;omega⟩
theorem CS.below (h:CS kd w a gl F st sq G W) (b:¬F gl/\gl<w.heap.size) (c:Below W W W'):CS kd w a gl F st sq (fun i=>G i\/(W.heap.size<=i/\i<W'.heap.size)) W':=h.mem b (yK.of_below c)
theorem CS.mono (h:CS kd w a gl F st sq G W) (k:∀i,G' i->G i):CS kd w a gl F st sq G' W:=by obtain⟨b,e,c,g,d,f⟩:=h;exact⟨b,e,c,fun i j=>g i (k i j),d,f⟩
theorem CS.drew (h:CS kd w a gl F st sq G W):CS kd w a gl F st sq G W.drew:=by obtain⟨b,e,c,g,d,f⟩:=h;exact⟨b,e.drew,c,g,d.drew,f⟩
theorem CS.count (h:CS kd w a gl F st sq G W) (n:¬F gl/\gl<w.heap.size) (m:Int):CS kd w a gl F st m G (W.setCell (gl,3) (.int .u32 m)):=by
 obtain⟨f,j,d,e,g,k⟩:=h;have c:yK (fun i=>i=gl) W (W.setCell (gl,3) (.int .u32 m)):=yK.setCell (F:=fun i=>i=gl) rfl _;refine⟨f,j.keep c (fun i b l=>?_),d,fun i b=>⟨zm (e i b).1 c.size,(e i b).2⟩,g.trans c (fun i b=>zt (zu b)),?_⟩
 .subst l;rcases d i b with h|h
  .exact n.1 h
  .omega
 .have:=jE (i:=3) k (.int .u32 m);simpa[logC]using this
theorem CS.log (h:CS kd w a gl F st sq G W):W.heap[gl]?=some (.cells (logC a sq) 159):=by obtain⟨c,f,d,g,e,b⟩:=h;exact b
theorem CS.cells (h:CS kd w a gl F st sq G W):W.cell? (gl,0)=some (.pointer (some a))/\W.cell? (gl,1)=some (.int .i64 5)/\W.cell? (gl,2)=some (.int .i64 32)/\W.cell? (gl,3)=some (.int .u32 sq)/\gl<W.heap.size/\W.frozen? (gl,3)=false:=by have b:=h.log;exact⟨zC b,zC b,zC b,zC b,xL b,zF b⟩
theorem CS.own (h:CS kd w a gl F st sq G W) {i:Nat} (j:G i):i<W.heap.size:=by obtain⟨c,f,d,b,e,g⟩:=h;exact (b i j).1
theorem CS.keeps (h:CS kd w a gl F st sq G W):yK (fun i=>F i\/i=gl) w W:=by obtain⟨c,e,d,g,b,f⟩:=h;exact b
theorem CS.flush (h:CS kd w a gl F st sq G W) (o:¬F gl/\gl<w.heap.size):Calls prog 91 #[.pointer (some a)] W fun e W'=>e=.returned (.tuple #[])/\CS kd w a gl F (doE st barR) sq G W'/\∀i,G i->W'.heap[i]?=W.heap[i]? :=by have g:=h;obtain⟨l,f,d,j,m,n⟩:=h;exact (LM f).mono fun e W' ⟨c,b⟩=>⟨c,g.did o d (fun i k=>(j i k).2.2) b⟩
theorem CS.write (h:CS kd w a gl F st sq G W) (t:¬F gl/\gl<w.heap.size) (n:Nat) (x:n<kd) (g c:Nat) (D:List Int) (u:D.length=64) (v:G g) {cur:Array Value} (y:W.heap[g]?=some (.cells cur 5)) (z:cur.toList.take 64=u8s D) (A:st.W.length<1000000):
 Calls prog 88 #[.pointer (some a),n,.slice (some ⟨g,0,none⟩) 64 c] W fun e W'=>e=.returned ()/\CS kd w a gl F (doE st (n,D,false)) sq G W'/\∀i,G i->W'.heap[i]?=W.heap[i]? :=by
 have m:=h;obtain⟨p,l,k,b,r,s⟩:=h;rw[Ko];exact (jx l n x _ D u (fun q f=>qZ u ((f.block g (b g v).1 (b g v).2.2).trans y) z) A).mono fun e W' ⟨j,d⟩=>⟨j,m.did t k (fun i o=>(b i o).2.2) d⟩
def pB (F:Nat->Prop) (gl:Nat) (v:Value):Prop:=∀q,v.ownBlock=some q->¬F q/\q≠gl
theorem CS.write_arg (h:CS kd w a gl F st sq G W) (J:¬F gl/\gl<w.heap.size) (n:Nat) (K:n<kd) (L:qW w B x) (M:pB F gl x.v) (N:st.W.length<1000000):
 Calls prog 88 #[.pointer (some a),n,x.v] W fun e W'=>e=.returned ()/\CS kd w a gl F (doE st (n,x.D,false)) sq G W'/\∀i,G i->W'.heap[i]?=W.heap[i]? :=by
 have p:=h;obtain⟨s,u,k,z,t,I⟩:=h;obtain⟨_,l,f,H,y,d,_,c,q⟩:=id L;have b:=M f (by rw[d];rfl);have m:=(t.block f (xL c) (fun j=>j.elim b.1 b.2)).trans c;have g:¬s f:=fun j=>by
  rcases k f j with h|h
  .exact b.1 h
  .exact yb (xL c) (xM h)
 rw[Ko,d];exact (jx u n K _ x.D l (fun E r=>qZ l ((r.block f (xL m) g).trans m) q) N).mono fun e W' ⟨C,o⟩=>⟨C,p.did J k (fun i A=>(z i A).2.2) o⟩
end
def TD (W:World) (G:Nat->Prop) (b:Nat) (v:Value) (L:List Rb):Prop:=∃E:List Rq,E.map rab=L/\W.ownsRow b 165 3 v E.length (uU E)/\(∀q,v.ownBlock=some q->G q)/\∀x∈E,x.b=false/\x.n<256/\x.D.length=64/\∃g cap cur,x.v=.slice (some ⟨g,0,none⟩) 64 cap/\G g/\W.heap[g]?=some (.cells cur 5)/\cur.toList.take 64=u8s x.D
theorem TD.nil (W:World) (G:Nat->Prop) (b:Nat):TD W G b (.slice none 0 0) []:=⟨[],rfl,yW _ _ _ _,fun q c=>by simp[Value.ownBlock]at c,fun x a=>by simp at a⟩
theorem TD.keep (h:TD W G b v L) (u:∀i,G i->W'.heap[i]?=W.heap[i]?) (w:∀i,G i->G' i):TD W' G' b v L:=by obtain⟨E,n,j,f,m⟩:=h;refine⟨E,n,oT j fun q a=>u q (f q a),fun q a=>w q (f q a),fun x p=>?_⟩;obtain⟨r,o,s,g,c,d,t,e,l,k⟩:=m x p;exact⟨r,o,s,g,c,d,t,w g e,(u g e).trans l,k⟩
theorem TD.run (h:TD W G b v L):∃E:List Rq,E.map rab=L/\rx W v E/\∀x∈E,RqOk W x:=by obtain⟨E,k,e,q,f⟩:=h;refine⟨E,k,rx.of_owns e,fun x o=>?_⟩;obtain⟨d,n,a,g,l,c,j,p,i,m⟩:=f x o;refine zu ⟨d,n,?_,a⟩;rw[j];exact qZ a i m
def zS : List Int:=List.replicate 64 0
def mh (sq:Int) (L:List Wr):Nat->List Int
 | 0=>over ((zS.set 0 74).set 5 (L.length:Int)) 1 (uS sq)
 | k+1=>(mh sq L k).set (6+k) (((L[k]?.getD (0,[])).1:Nat):Int)
def py (sq:Int) (L:List Wr):List Int:=mh sq L L.length
def qS (sq sm:Int):List Int:=over (over (zS.set 0 67) 1 (uS sq)) 5 (uS sm)
def oP (L:List Wr):Nat->List Rb
 | 0=>[]
 | k+1=>oP L k++[(6+k,(L[k]?.getD (0,[])).2,false)]
def opsA (L:List Wr):List Rb:=[barR,(5,zS,false),barR]++oP L L.length
def opsB (sq:Int) (L:List Wr):List Rb:=opsA L++[(6+L.length,zS,false),barR,(5,py sq L,false),(6+L.length,qS sq (sumW L),false),barR]
def opsJ (sq:Int) (L:List Wr):List Rb:=opsB sq L++pM (emit L) 0
theorem kw: zS.length=64:=by simp[zS]
theorem WC {l:List Int} {o:Nat} (h:o+D.length<=l.length):(over l o D).length=l.length:=by unfold over;rw[zl,zl,zi,yx];omega
theorem WT (sq:Int) (L:List Wr):∀k,(mh sq L k).length=64
 | 0=>by rw[mh,WC (by simp[zS,uS])];simp[zS]
 | k+1=>by rw[mh,xG];exact WT sq L k
theorem L1 (sq a:Int):(qS sq a).length=64:=by unfold qS;rw[WC (by rw[WC (by simp[zS,uS])];simp[zS,uS]),WC (by simp[zS,uS])];simp[zS]
theorem kP (L:List Int) (i:Nat) (x:Int):(u8s L).toArray.setIfInBounds i (.int .u8 x)=(u8s (L.set i x)).toArray:=by unfold u8s;rw[uZ];simp
structure mX (kd:Nat) (L:List Wr):Prop where
 n:∀x∈L,(x.1<5\/37<=x.1)/\x.1<kd
 d:(L.map fun x=>x.1).Nodup
 l:L.length<=30
theorem UK (S:List Nat) (l:List (Nat×Nat)) (f:∀x∈l,(x.1<5\/37<=x.1)/\x.1<kd/\x.2=64) (e:(S++l.map fun x=>x.1).Nodup):rJ kd S l=0:=by
 induction l generalizing S with
 | nil=>rfl
 | cons x l a=>
  have d:=f x (by simp);rw[rJ,zb (by omega),zb]
  .refine a _ (fun y b=>f y (by simp[b])) ?_;rw[zU];exact e
  .rw[ur];intro c;rw[wZ]at e;exact e.2.2 x.1 c x.1 (by simp) rfl
theorem O1 (g:mX kd (E.map jab)) (h:∀x∈E,qW w B x):gM kd E=0:=by
 have f:E.length<=30:=by have:=g.l;rwa [yw]at this
 unfold gM;rw[zb (by omega)];refine UK [] _ (fun y e=>?_) ?_
 .obtain⟨x,b,rfl⟩:=zV.1 e;have a:=g.n (jab x) (zV.2 ⟨x,b,rfl⟩);have c:x.D.length=64:=(h x b).2.1;exact⟨a.1,a.2,c⟩
 .rw[xj,vB];have:=g.d;rw[vB]at this;exact this
theorem Pr (h:qW w B x):YA x:=by obtain⟨d,c,g,a,b,e,_⟩:=h;exact⟨d,by omega,_,a,by rw[e,c]⟩
theorem MO (h:CS kd w a gl F st sq (fun _=>False) w) (y:¬F gl/\gl<w.heap.size) (p:Option Addr) (c:Nat):
 Calls prog 45 #[(gl,()),.slice p 0 c] w fun e w'=>e=.returned ()/\CS kd w a gl F (doE st barR) sq (fun _=>False) w':=by
 have l:Hid (Calls prog 92 #[(gl,()),.slice p 0 c] w fun e w'=>e=.returned ()/\Below w w w'):=by obtain⟨v,k,_⟩:=id h;exact YT k h.log (.slice p 0 c) [] ⟨rfl,zt ⟨rfl,p,c,rfl⟩⟩ (by simp) (by simp)
 have m:=Lib.hid h;have d:=Lib.hid y;clear h y;go_enter func45,ntmps45;go_wp2_with fail
 refine l.o.mono ?_;rintro e u ⟨rfl,g⟩;have b:=Lib.hid ((m.o.below d.o g).mono (G':=fun _=>False) (fun _ h=>h.elim));clear g;obtain⟨q,s,t,n,j,r⟩:=b.o.cells;go_wp2_with fail
 refine (b.o.flush d.o).mono ?_;rintro e x ⟨rfl,f,_⟩;have i:=Lib.hid f;clear f q s t n r;go_wp2;go_ret;exact⟨rfl,i.o⟩
theorem i8 (n:Int) (b:0<=n) (c:n<4294967296) (w W:World) (d:Below w w W) (a:W.heap.size=w.heap.size):Calls prog 93 #[.int .u32 n] W fun e w'=>e=.returned (.slice (some ⟨w.heap.size,0,none⟩) 4 4)/\Below w w w'/\vC w' (.slice (some ⟨w.heap.size,0,none⟩) 4 4) (uS n):=by refine (TL n b c W).mono ?_;rintro e w' ⟨rfl,rfl⟩;rw[<-a];refine⟨rfl,?_,qZ (cur:=(u8s (uS n)).toArray) rfl (zT W _) (by simp[u8s,uS])⟩;rw[a];exact d.alloc (by omega) _
theorem CS.copied (h:CS kd w a gl F st sq G W) (c:¬F gl/\gl<w.heap.size) (d:Below W W W') {g:Nat} (e:G g) (cs:Array Value):CS kd w a gl F st sq G (W'.setRow g cs):=
 (h.mem c ((yK.of_below d).step (yK.setRow e cs))).mono fun _ b=>zt b
theorem TD.snoc {W2 W4:World} {gg g2 cap2 cap4:Nat} {E:List Rq} {n:Nat} {cur2:Array Value} {o:Obj}
 (K:W.ownsRow b 165 3 v E.length (uU E)) (L:∀q,v.ownBlock=some q->G q)
 (M:∀x∈E,x.b=false/\x.n<256/\x.D.length=64/\∃g cap cur,x.v=.slice (some ⟨g,0,none⟩) 64 cap/\G g/\W.heap[g]?=some (.cells cur 5)/\cur.toList.take 64=u8s x.D)
 (C:Below W W W2) (F:W.heap.size<=g2) (H:W2.heap[g2]?=some (.cells cur2 5)) (I:cur2.toList.take 64=u8s D) (N:n<256) (O:D.length=64)
 (B:W4.ownsRow b 165 3 (gg,0,(E.length+1),cap4) (E.length+1) (uU E++[.int .i64 (n:Int),.slice (some ⟨g2,0,none⟩) 64 cap2,.bool false]))
 (A:(W2.alloc o).grownBy W4 v.ownBlock) (J:v.ownBlock=some gg\/gg=W2.heap.size+1):
 TD W4 (fun i=>G i\/(W.heap.size<=i/\i<W4.heap.size)) b (gg,0,(E.length+1),cap4) (E.map rab++[(n,D,false)])/\yK G W W4:=by
 have s:(W2.alloc o).heap.size=W2.heap.size+1:=by simp
 have p:=A.size;refine⟨⟨E++[⟨n,.slice (some ⟨g2,0,none⟩) 64 cap2,D,false⟩],by rw[yB];rfl,?_,fun q f=>?_,fun x c=>?_⟩,((yK.of_below C).step (yK.alloc o)).step (yK.grown A L)⟩
 .rw[zl,Ua];exact B
 .have m:=(B.lt q f).2;have t:gg=q:=by simpa[Value.ownBlock]using f
  subst t;rcases J with h|h
  .exact zt (L _ h)
  .exact zu ⟨by have:=C.size;omega,m⟩
 .rcases yv.1 c with c|c
  .obtain⟨u,r,w,g,cap,cur,y,k,j,l⟩:=M x c;refine⟨u,r,w,g,cap,cur,y,zt k,?_,l⟩;have a:v.ownBlock≠some g:=rW K j (by decide);have d:=tf (we C j) o;exact (A.block g (xL d) (yF a)).trans d
  .rw[xw]at c;subst c;have d:=tf H o;have a:v.ownBlock≠some g2:=fun z=>(by have:=(K.lt g2 z).2;omega);have e:=(A.block g2 (xL d) (yF a)).trans d;exact⟨rfl,N,O,g2,cap2,cur2,rfl,zu ⟨F,xL e⟩,e,I⟩
theorem VK (L:List Wr):∀k,(oP L k).length=k
 | 0=>rfl
 | k+1=>by rw[oP,zl,VK L k];rfl
theorem Ok {L:List Wr} (a:k<L.length):emit (L.take (k+1))=emit (L.take k)++[(L[k].1,L[k].2,false)]:=by unfold emit;rw[<-zY a,yB];rfl
theorem N0 {L:List Wr} (a:k<L.length):oP L (k+1)=oP L k++[(6+k,L[k].2,false)]:=by rw[oP,zf a];rfl
theorem ND {L:List Wr} (a:k<L.length):mh sq L (k+1)=(mh sq L k).set (6+k) ((L[k].1:Nat):Int):=by rw[mh,zf a];rfl
theorem CS.arg (h:CS kd w a gl F st sq G W) (l:qW w B x) (m:pB F gl x.v):vC W x.v x.D:=by obtain⟨_,_,e,k,f,c,_,d,i⟩:=id l;have b:=m e (by rw[c];rfl);have g:=(h.keeps.block e (xL d) (fun j=>j.elim b.1 b.2)).trans d;rw[c];exact qZ l.2.1 g i
structure LJ (kd:Nat) (w:World) (a:Addr) (gl:Nat) (F:Nat->Prop) (st:Dk) (sq:Int) (L:List Wr) (gn gh:Nat) (Z:List Int) (k:Nat) (td:Value) (W:World):Prop where
 ex:∃G GT:Nat->Prop,CS kd w a gl F (runE st (oP L k)) sq G W/\(G gn/\G gh)/\(∀i,GT i->G i/\i≠gn/\i≠gh)/\TD W GT w td (emit (L.take k))
 hh:W.heap[gh]?=some (.cells (u8s (mh sq L k)).toArray 5 (0,0))
 hz:W.heap[gn]?=some (.cells (u8s Z).toArray 5 (0,0))
theorem CS.jws (h:CS kd w a gl F st sq G W) (f:qA w b B v E) (i:∀x∈E,pB F gl x.v) (g:pB F gl v):me W v E:=by exact⟨xT.of_owns (oT f.1 fun q d=>h.keeps.block q (f.1.lt q d).2 fun e=>e.elim (g q d).1 (g q d).2),fun x c=>⟨(f.2 x c).1,h.arg (f.2 x c) (i x c),(f.2 x c).2.1⟩⟩
theorem CS.runs {GT:Nat->Prop} (u:kd<=256) (h:CS kd w a gl F st sq G W) (s:¬F gl/\gl<w.heap.size) {R:List Rb} (y:TD W GT b v R) (z:∀x∈R,x.1<kd) (t:R.length<=100) (A:st.W.length<900000):
 Calls prog 95 #[.pointer (some a),v] W fun e W'=>e=.returned ()/\CS kd w a gl F (runE st (pM R 0)) sq (fun _=>False) W':=by
 have k:=h.mono (G':=fun _=>False) (fun _ d=>d.elim);obtain⟨o,l,j,r,p,q⟩:=h;obtain⟨E,c,m,f⟩:=y.run;refine (UD l v E m f (fun x f _=>?_) (by omega) ?_ A).mono fun e W' ⟨n,g⟩=>⟨n,?_⟩
 .exact z (rab x) (by rw[<-c];exact zV.2 ⟨x,f,rfl⟩)
 .rw[<-c,yw]at t;exact t
 .rw[c]at g;exact (k.did s j (fun i d=>d.elim) g).1
theorem TD.drew (h:TD W G b v L):TD W.drew G b v L:=h
theorem KS {o:Oper} {a:Act} {K:Act->World->Prop} {Q:Exit->Act->World->Prop} {ops:Array Oper} {X:Prop} (q:Option Nat) (j:o.dst=q) (k:o.guard=none) (d s:Operand) (l r:TypeId) (u:o.op=.call {callee:=.builtin .copy,args:=#[d,s],argTypes:=#[l,r]}) (b:TypeId) (v:prog.underlying l=some (.slice b)) (m:(prog.info? b).map (·.size)=some 1)
 (g e c f:Nat) (n:Value) (x:a.eval d=.slice (some (g,e)) c f) (y:a.eval s=n) (cur D:List Int) (t:TypeId) (z:w.heap[g]?=some (.cells (u8s cur).toArray t (0,0)))
 (A:vC w n D) (B:0<D.length) (p:D.length<=c) (i:e+D.length<=cur.length)
 (h:K (a.put q (goInt D.length)) (w.setRow g (u8s (over cur e D)).toArray)):if Region.wanted o (yielded ops a.tmps)=true then Oper.wp prog o a w K Q else X:=
 Ht k d s l r u b v m g e c f n x y cur D t z A B p i (by rw[j];exact h)
theorem MN (aI:64<=kd) (aE:kd<=256) (h:CS kd w a gl F st sq (fun _=>False) w) (al:¬F gl/\gl<w.heap.size) (v:Value) (E:List Jw) (hJ:qA w b B v E) (ho:∀x∈E,pB F gl x.v) (a1:pB F gl v) (hg:mX kd (E.map jab)) (h0:0<E.length) (aG:0<=sq/\sq<=1000) (hW:st.W.length<800000):
 Calls prog 45 #[(gl,()),v] w fun e w'=>e=.returned ()/\CS kd w a gl F (runE st (opsJ (sq+1) (E.map jab))) (sq+1) (fun _=>False) w':=by
 have HR:Hid (Calls prog 92 #[(gl,()),v] w fun e w'=>e=.returned ()/\Below w w w'):=by obtain⟨F',O,_⟩:=id h;have h2:=YT O h.log v E (xT.of_owns hJ.1) (fun x hx=>Pr (hJ.2 x hx)) (by have:=hg.l;rw[yw]at this;omega);rw[O1 hg hJ.2]at h2;exact h2
 have HC:=Lib.hid h;have j:=Lib.hid al;have cN:=Lib.hid ho;have bP:=Lib.hid a1;have HJ:=Lib.hid hJ.2;have dG:=Lib.hid hJ;have HG:=Lib.hid hg;obtain⟨p,cp,rfl,HP⟩:=WE (xT.of_owns hJ.1);obtain⟨N,HN⟩:=zD E.length;have dW:E.length<=30:=by have:=hg.l;rwa [yw]at this
 rw[HN.o]at HP h0 dW;rw[HN.o];rw[HN.o]at HR;obtain⟨L,HL⟩:=zD (E.map jab);have ai:Hid (L.length=N):=by show _=_;rw[<-HL.o,yw];exact HN.o
 rw[HL.o]at HG;have a4:Calls prog 45 #[(gl,()),(p,N,cp)] w fun e w'=>e=.returned ()/\CS kd w a gl F (runE st (opsJ (sq+1) L)) (sq+1) (fun _=>False) w':=by
  have eM:((N:Int)==0)=false:=by rw[xf];omega
  obtain⟨eN,eJ⟩:=aG;have dV:=Lib.hid hW;obtain⟨Z,HZ⟩:=zA zS;have ao:∀W:World,(Instr.makeSlice 23 (.int .i64 64) (.int .i64 64)).run prog W=.ok (.slice (some ⟨W.heap.size,0,none⟩) 64 64) (W.alloc (.cells (u8s Z).toArray 5)):=fun W=>by rw[HZ.o];exact jl 64 64 rfl (by omega) W
  clear h al ho a1 hJ hg hW;go_enter func45,ntmps45;go_wp2_with fail
  refine HR.o.mono ?_;rintro e w1 ⟨rfl,d8⟩;have br:=Lib.hid ((HC.o.below j.o d8).mono (G':=fun _=>False) (fun _ h=>h.elim));clear d8 HR;obtain⟨A,u,z,r,s,H⟩:=br.o.cells;go_wp2_with fail
  refine (br.o.flush j.o).mono ?_;rintro e w2 ⟨rfl,dw,_⟩;have bF:=Lib.hid dw;clear dw A u z r H s br;obtain⟨A,u,z,r,s,H⟩:=bF.o.cells;have cS:=bF.o.count j.o (sq+1);have bS:=(cS.below j.o (zB.alloc zL (.cells (u8s Z).toArray 5))).mono (G':=fun i=>i=(w2.setCell (gl,3) (.int .u32 (sq+1))).heap.size) (fun i c=>zu ⟨by omega,by subst c;simp⟩);have bt:=zT (w2.setCell (gl,3) (.int .u32 (sq+1))) (.cells (u8s Z).toArray 5);rw[show (w2.setCell (gl,3) (.int .u32 (sq+1))).heap.size=w2.heap.size by simp[World.setCell]]at bS bt;have aX:=Lib.hid bS;have bs:=Lib.hid bt;clear cS bS bt;go_wp2;have aW:Hid ((doE st barR).W.length<=800001):=by have O:=kY st barR;have h2:=dV.o;show _<=_;omega
  obtain⟨s1,cY⟩:=zD (doE st barR);rw[cY.o]at aX aW;clear bF A u z r s H HC ao;generalize (w2.setCell (gl,3) (.int .u32 (sq+1))).alloc (.cells (u8s Z).toArray 5)=w4 at *
  generalize w2.heap.size=Q at *
  obtain⟨A,u,z,r,s,H⟩:=aX.o.cells
  go_still_tail 9,(by kernel_rfl)
  go_wp2_with fail
  refine (aX.o.drew.write j.o 5 (by omega) Q 64 zS kw rfl (cur:=(u8s Z).toArray) bs.o (by rw[HZ.o];simp[u8s,zS]) (by have:=aW.o;omega)).mono ?_;rintro e w5 ⟨rfl,b8,cW⟩;have d6:=Lib.hid ((cW Q rfl).trans bs.o);have a2:Hid ((doE s1 (5,zS,false)).W.length<=800002):=by have O:=kY s1 (5,zS,false);have h2:=aW.o;show _<=_;omega
  obtain⟨s2,dt⟩:=zD (doE s1 (5,zS,false));rw[dt.o]at b8 a2;have bJ:=Lib.hid b8;clear b8 cW A u z r s H aX bs aW;obtain⟨A,u,z,r,s,H⟩:=bJ.o.cells;go_wp2_with fail
  refine (bJ.o.flush j.o).mono ?_;rintro e w6 ⟨rfl,bT,aZ⟩;have dk:=Lib.hid ((aZ Q rfl).trans d6.o);have am:Hid ((doE s2 barR).W.length<=800003):=by have O:=kY s2 barR;have h2:=a2.o;show _<=_;omega
  obtain⟨s3,cH⟩:=zD (doE s2 barR);rw[cH.o]at bT am;have aN:=Lib.hid bT;clear bT aZ A u z r s H bJ d6 a2;obtain⟨A,u,z,r,s,H⟩:=aN.o.cells;have ao:∀W:World,(Instr.makeSlice 23 (.int .i64 64) (.int .i64 64)).run prog W=.ok (.slice (some ⟨W.heap.size,0,none⟩) 64 64) (W.alloc (.cells (u8s Z).toArray 5)):=fun W=>by rw[HZ.o];exact jl 64 64 rfl (by omega) W
  go_upto_region 12 with fail
  clear ao;have af:=zT w6 (.cells (u8s Z).toArray 5);have a0:=(aN.o.below j.o (zB.alloc zL (.cells (u8s Z).toArray 5))).mono (G':=fun i=>i=Q\/i=w6.heap.size) (fun i c=>c.imp id (fun h=>⟨by omega,by subst h;simp⟩));have aS:Q≠w6.heap.size:=by have:=aN.o.own (i:=Q) rfl;omega
  have cC:Hid ((w6.alloc (.cells (u8s Z).toArray 5)).heap[Q]?=some (.cells (u8s Z).toArray 5 (0,0))):=tf dk.o _;clear A u z r s H aN dk;generalize w6.alloc (.cells (u8s Z).toArray 5)=w7 at *
  generalize w6.heap.size=f at *
  have z0:w7.cell? (f,0)=some (.int .u8 0):=by rw[zC af,HZ.o];rfl
  have z5:w7.cell? (f,5)=some (.int .u8 0):=by rw[zC af,HZ.o];rfl
  have f0:w7.frozen? (f,0)=false:=zF af;have f5:w7.frozen? (f,5)=false:=zF af;have dF:f<w7.heap.size:=xL af;have ak:Hid (((w7.setCell (f,0) (.int .u8 74)).setCell (f,5) (.int .u8 (N:Int))).heap[f]?=some (.cells (u8s ((Z.set 0 74).set 5 (N:Int))).toArray 5 (0,0))):=by have O:=jE (i:=0) af (.int .u8 74);rw[kP]at O;have h2:=jE (i:=5) O (.int .u8 (N:Int));rw[kP]at h2;exact h2
  have aa:yK (fun i=>i=Q\/i=f) w7 ((w7.setCell (f,0) (.int .u8 74)).setCell (f,5) (.int .u8 (N:Int))):=(yK.setCell (F:=fun i=>i=Q\/i=f) (zu rfl) _).step (yK.setCell (F:=fun i=>i=Q\/i=f) (zu rfl) _);have Y:=Lib.hid ((a0.mem j.o aa).mono (G':=fun i=>i=Q\/i=f) (fun i c=>zt c));have cM:Hid (((w7.setCell (f,0) (.int .u8 74)).setCell (f,5) (.int .u8 (N:Int))).heap[Q]?=some (.cells (u8s Z).toArray 5 (0,0))):=(yC _ _ _ _ aS).trans ((yC _ _ _ _ aS).trans cC.o);clear a0 aa af;go_wp2;obtain⟨A,u,z,r,s,H⟩:=Y.o.cells;generalize (w7.setCell (f,0) (.int .u8 74)).setCell (f,5) (.int .u8 (N:Int))=w8 at *
  clear z0 z5 f0 f5 dF cC;have aq:=Lib.hid (i8 (sq+1) (by omega) (by omega) w8 w8.drew (zB.drew) rfl);refine vZ ?_
  go_region_held_law (fun w'=>w'.cell? (gl,3)=some (.int .u32 (sq+1)))
   (first
    | (go_keep;done)
    | exact m1
    | exact m2)
   (first
    | (
     go_at_call 93;refine aq.o.mono ?_;rintro e w9 ⟨rfl,ad,az⟩
     have m1:w9.cell? (gl,3)=some (.int .u32 (sq+1)):=(ad.cell (p:=⟨gl,3,none⟩) s).trans r;have M:=Lib.hid ad;have ar:=Lib.hid az;clear ad az)
    | (
     refine KS (some 64) (by rfl) (by rfl) _ _ _ _ (by rfl) 5 u8sT jd f 1 63 63 _ (by rfl) (by rfl) ((Z.set 0 74).set 5 (N:Int)) (uS (sq+1)) 5 (we M.o ak.o) ar.o (by simp[uS]) (by simp[uS]) (by rw[HZ.o];simp[uS,zS]) ?_;have q:=Y.o.copied j.o M.o (g:=f) (zu rfl) (u8s (over ((Z.set 0 74).set 5 (N:Int)) 1 (uS (sq+1)))).toArray;have J:=yi w9 f _ (u8s (over ((Z.set 0 74).set 5 (N:Int)) 1 (uS (sq+1)))).toArray _ _ (we M.o ak.o);have bi:=(yZ w9 f Q (u8s (over ((Z.set 0 74).set 5 (N:Int)) 1 (uS (sq+1)))).toArray aS).trans (we M.o cM.o);generalize w9.setRow f (u8s (over ((Z.set 0 74).set 5 (N:Int)) 1 (uS (sq+1)))).toArray=cn at *
     have m2:cn.cell? (gl,3)=some (.int .u32 (sq+1)):=q.cells.2.2.2.1;have bo:=Lib.hid q;have bn:=Lib.hid J;have bf:=Lib.hid bi;clear q J bi))
  refine uz ?_;clear m1 m2 ar M Y ak cM aq A u z r s H;go_wp2;have dB:Hid (LJ kd w a gl F s3 (sq+1) L Q f Z 0 (.slice none 0 0) cn):=⟨⟨_,fun _=>False,bo.o,⟨zt rfl,zu rfl⟩,fun i c=>c.elim,TD.nil _ _ _⟩,by rw[mh,ai.o,<-HZ.o];exact bn.o,bf.o⟩;clear bo bn bf;go_loopw [8,67] (fun td i wr=>∃k:Nat,k<=N/\i=.int .i64 k/\Hid (LJ kd w a gl F s3 (sq+1) L Q f Z k td wr)) (fun _ i _=>N-(intOf i).toNat);case atStart=>exact⟨0,ye _,rfl,dB⟩
  case round=>
   obtain⟨k,hk,rfl,T⟩:=hrel;obtain⟨G,GT,hC,hG,aL,hT⟩:=T.o.ex;by_cases s:k<N
   .obtain⟨g,o,rfl,hg,hc⟩:=HP.o (by omega);have ct:k<E.length:=(by rw[HN.o];exact s);obtain⟨e0,e1⟩:=Zw E k ct;have hx:=HJ.o E[k] (zz ct);have aR:k<L.length:=(by rw[ai.o];exact s);have cy:L[k]=jab E[k]:=(by simp only[<-HL.o,uH]);have aA:=HG.o.n L[k] (zz aR);have a3:=ND (sq:=sq+1) aR;have a7:=N0 aR;have au:=Ok aR;rw[cy]at aA a3 a7 au;have b4:=cN.o E[k] (zz _);generalize E[k]=x at e0 e1 hx aA a3 a7 au b4;have c2:=Lib.hid b4;clear b4;have HX:=Lib.hid hx;obtain⟨R,xv,xD⟩:=x;obtain⟨a8,b0,gx,cx,eo,dc,_⟩:=hx;dsimp only[jab]at dc e0 e1 aA a3 a7 au a8 b0;subst dc;have cm:¬(F g\/g=gl):=fun hc=>hc.elim (bP.o g rfl).1 (bP.o g rfl).2;have c0:=(hC.keeps.cell (i:=o+k*2) hg cm).trans (hc _ _ e0);have c1:=(hC.keeps.cell (i:=o+(k*2+1)) hg cm).trans (hc _ _ e1);rw[<-yA]at c1;have ey:(k:Int)<(N:Int):=(by omega);have al:g<wr.heap.size:=zm hg hC.keeps.size;have eQ:¬g=wr.heap.size:=(by omega);have eq:f<wr.heap.size:=hC.own hG.2;have en:¬f=wr.heap.size:=(by omega);have em:¬Q=wr.heap.size:=(by have:=hC.own hG.1;omega);have i6:=zW (6+(k:Int));have ej:0<=6+(k:Int):=(by omega);have dN:6+(k:Int)<64:=(by omega);have dD:(6+(k:Int)).toNat=6+k:=(by omega);have ku:IntKind.u8.wrap (R:Int)=(R:Int):=IntWalk.u8_in _ (by omega);have aZ:6+k<64:=(by omega);have z6:wr.cell? (f,6+k)=(u8s (mh (sq+1) L k))[6+k]? :=(by rw[zC T.o.hh];simp);rw[sJ _ _ (by rw[WT];exact aZ)]at z6;have f6:wr.frozen? (f,6+k)=false:=zF T.o.hh;have HC:=Lib.hid hC;have I:=Lib.hid hG;have m:=Lib.hid aL;have HT:=Lib.hid hT;have d2:=Lib.hid a3;have c8:=Lib.hid a7;have dT:=Lib.hid au;have fa:=Lib.hid aA;clear hC hG aL hT a3 a7 au aA hc e0 e1 cy;go_wp2;have V:(wr.setCell (f,6+k) (.int .u8 (R:Int))).heap.size=wr.heap.size:=(by simp[World.setCell]);have dm:=((((HC.o.mem j.o (yK.setCell (F:=G) (p:=⟨f,6+k,none⟩) I.o.2 (.int .u8 (R:Int)))).mono (G':=G) fun i c=>zt c).below j.o (zB.alloc zL (.cells #[R,.slice (some ⟨gx,0,none⟩) 64 cx] 163)))).mono (G':=fun i=>G i\/i=wr.heap.size) (fun i c=>c.imp id (fun h=>by subst h;rw[V];exact⟨zL,by simp[V]⟩));have bY:=tf (jE (i:=6+k) T.o.hh (.int .u8 (R:Int))) (.cells #[R,.slice (some ⟨gx,0,none⟩) 64 cx] 163);rw[kP,<-d2.o]at bY;have df:=tf ((yC wr ⟨f,6+k,none⟩ (.int .u8 (R:Int)) Q aS).trans T.o.hz) (.cells #[R,.slice (some ⟨gx,0,none⟩) 64 cx] 163);have bH:=zT (wr.setCell (f,6+k) (.int .u8 (R:Int))) (.cells #[R,.slice (some ⟨gx,0,none⟩) 64 cx] 163);rw[V]at bH;have cr:=HT.o.keep (W':=(wr.setCell (f,6+k) (.int .u8 (R:Int))).alloc (.cells #[R,.slice (some ⟨gx,0,none⟩) 64 cx] 163)) (G':=GT) (fun i c=>(vj _ _ i (by rw[V];exact HC.o.own (m.o i c).1)).trans (yC wr _ _ i (m.o i c).2.2)) (fun _ c=>c);have b3:=Lib.hid dm;have cI:=Lib.hid bY;have cD:=Lib.hid df;have aC:=Lib.hid bH;have dq:=Lib.hid cr;have dE:G wr.heap.size->False:=fun h=>(by have:=HC.o.own h;omega);clear dm bY df bH cr z6 f6 c0 c1 HC HT T d2 i6 ej dN dD ku V;generalize (wr.setCell (f,6+k) (.int .u8 (R:Int))).alloc (.cells #[R,.slice (some ⟨gx,0,none⟩) 64 cx] 163)=wA at *
    generalize wr.heap.size=U at *
    obtain⟨A,u,z,r,d,H⟩:=b3.o.cells;have c0:wA.cell? (U,0)=some (.int .i64 (R:Int)):=zC aC.o;have c1:wA.cell? (U,1)=some (.slice (some ⟨gx,0,none⟩) 64 cx):=zC aC.o;have ck:U<wA.heap.size:=xL aC.o;have i3:=zW (6+(k:Int));have C:=b3.o.drew.write_arg j.o (6+k) (by omega) HX.o c2.o (by have O:=gK s3 (oP L k);rw[VK]at O;have:=am.o;omega);rw[show ((6+k:Nat):Int)=6+(k:Int) by omega]at C;have P:=Lib.hid C;clear C
    go_still_tail 13,(by kernel_rfl)
    go_wp2_with fail
    refine P.o.mono ?_;rintro e wB ⟨rfl,dz,aD⟩;have aw:=dz.drew;rw[<-L5,<-c8.o]at aw;have aO:=Lib.hid aw;have dn:=(aD f (zt I.o.2)).trans cI.o;have cz:=(aD Q (zt I.o.1)).trans cD.o;have aY:=(aD U (zu rfl)).trans aC.o;have ds:=dq.o.keep (W':=wB.drew) (G':=GT) (fun i c=>aD i (zt (m.o i c).1)) (fun _ c=>c);have aV:=Lib.hid dn;have aU:=Lib.hid cz;have cg:=Lib.hid ds;have x0:wB.cell? (U,0)=some (.int .i64 (R:Int)):=zC aY;have x1:wB.cell? (U,1)=some (.slice (some ⟨gx,0,none⟩) 64 cx):=zC aY;have ag:U<wB.heap.size:=xL aY;clear dz aw aD dn cz aY ds b3 cI cD aC dq c0 c1 A u z r d H i3 P ck c8;obtain⟨ET,bz,ho,h3,h4⟩:=cg.o;have dj:=Lib.hid bz;have HO:=Lib.hid ho;have H3:=Lib.hid h3;have H4:=Lib.hid h4;have er:ET.length<=30:=(by have O:(ET.map rab).length=(emit (L.take k)).length:=(by rw[bz]);rw[yw]at O;unfold emit at O;rw[yw,zi]at O;omega);have ef:=Lib.hid (aO.o.arg HX.o c2.o);have dZ:w.heap.size<=wB.heap.size:=aO.o.keeps.size;clear bz ho h3 h4 cg;have ci:=Lib.hid (Yu _ xD wB.drew ef.o b0);obtain⟨i0,co,du,cE,db⟩:=xp kV;have HI:=Lib.hid co;have dO:=Lib.hid du;have ek:=Lib.hid cE;have dY:=Lib.hid db;clear co du cE db;go_wp2_with fail
    refine vZ ?_
    go_region_held_law (fun w'=>w'.cell? (U,0)=some (.int .i64 (R:Int))/\w'.cell? (U,1)=some (.slice (some ⟨gx,0,none⟩) 64 cx))
     (first
      | exact⟨m1,m2⟩
      | exact⟨m3,m4⟩
      | (go_keep;done))
     (first
      | (
       go_at_call 87;refine ci.o.mono ?_;rintro e w2 ⟨v2,rfl,g2,be,e6,rfl,cF,cZ,cB,ae⟩
       have m1:w2.cell? (U,0)=some (.int .i64 (R:Int)):=(ae.cell (p:=⟨U,0,none⟩) ag).trans x0;have m2:w2.cell? (U,1)=some (.slice (some ⟨gx,0,none⟩) 64 cx):=(ae.cell (p:=⟨U,1,none⟩) ag).trans x1;have cQ:=Lib.hid (th HO.o ae);have cR:=Lib.hid ae;have d1:=Lib.hid cF;have cv:=Lib.hid cZ;have cf:=Lib.hid cB;have eZ:w.heap.size<=w2.heap.size:=zr dZ ae.size;have ew:U<w2.heap.size:=zm ag ae.size;have ev:¬U=w2.heap.size:=(by omega);clear cF cZ cB ae)
      | (
       refine tr _ (by rfl) _ _ _ (by rfl) w.heap.size 165 i0 (.agg #[(),.slice none 0 0,.bool false]) 3 40 ka HI.o dO.o ek.o dY.o rfl (by omega) _ ET.length (uU ET) (by rfl) (cQ.o.alloc _)
        ⟨w2.heap.size,0,none⟩ 1 1 [.int .i64 (R:Int),.slice (some ⟨g2,0,none⟩) 64 be,.bool false] (by rfl) (by rfl) (xU (cs:=#[.int .i64 (R:Int),.slice (some ⟨g2,0,none⟩) 64 be,.bool false]) (t:=165) (fr:=(0,0)) (zT w2 _)) (by simp[Value.oneCell'])
        (by omega) (by unfold maxLen;omega) (by omega) (by simp;omega) (w2.heap.size+1) (by simp) ?_;intro gg cX w4 av a6 d5 eB
       obtain⟨di,bM⟩:=TD.snoc (n:=R) (D:=xD) HO.o H3.o H4.o cR.o d1.o cv.o cf.o a8 b0 av a6 d5;have b1:∀i,w4.cell? ⟨U,i,none⟩=wB.cell? ⟨U,i,none⟩:=fun i=>bM.cell ag (fun h=>dE (m.o U h).1);have m3:=(b1 0).trans x0;have m4:=(b1 1).trans x1;have cJ:=Lib.hid di;have aQ:=Lib.hid bM;clear di bM b1 av a6 d5))
    all_goals
     refine uz ?_;have dl:LJ kd w a gl F s3 (sq+1) L Q f Z (k+1) (gg,0,(ET.length+1),cX) w4:=by
      refine⟨⟨_,_,aO.o.mem j.o (aQ.o.mono (F1:=fun i=>G i\/i=U) (fun i _ c=>zt (m.o i c).1)),⟨zt (zt I.o.1),zt (zt I.o.2)⟩,fun i c=>?_,by rw[dT.o,<-dj.o];exact cJ.o⟩,(aQ.o.block f (xL aV.o) (fun h=>(m.o f h).2.2 rfl)).trans aV.o,(aQ.o.block Q (xL aU.o) (fun h=>(m.o Q h).2.1 rfl)).trans aU.o⟩;rcases c with c|c
      .exact⟨zt (zt (m.o i c).1),(m.o i c).2⟩
      .have e1:Q<wB.heap.size:=xL aU.o;have e2:f<wB.heap.size:=xL aV.o;have e3:wB.heap.size<=i:=c.1;exact⟨zu c,by omega,by omega⟩
     have dh:=Lib.hid dl;clear dl m1 m2 m3 m4 x0 x1 cQ cR d1 cv cf cJ aQ HO H3 H4 dj aO aV aU;go_wp2;go_roundw;case rel=>exact⟨k+1,by omega,by go_num,dh⟩
     case measure=>simp[intOf];omega
   .have ed:N=k:=(by omega);subst ed;obtain⟨s4,b9⟩:=zD (runE s3 (oP L N));rw[zv (by rw[ai.o];exact zL)]at hT;rw[b9.o]at hC;have an:Hid (s4.W.length<=800037):=(by have O:=gK s3 (oP L N);rw[VK,b9.o]at O;have h2:=am.o;show _<=_;omega);have d0:mh (sq+1) L N=py (sq+1) L:=(by unfold py;rw[ai.o]);have hh:=T.o.hh;rw[d0]at hh;have HH:=Lib.hid hh;have dg:=Lib.hid T.o.hz;have HC:=Lib.hid hC;have I:=Lib.hid hG;have m:=Lib.hid aL;have HT:=Lib.hid hT;clear hC hG aL hT hh d0 T;obtain⟨A,u,z,r,d,H⟩:=HC.o.cells;have i3:=zW (6+(N:Int));have eY:¬(N:Int)<(N:Int):=(by omega);go_wp2;have C:=HC.o.drew.write j.o (6+N) (by omega) Q 64 zS kw I.o.1 (cur:=(u8s Z).toArray) dg.o (by rw[HZ.o];simp[u8s,zS]) (by have:=an.o;omega);rw[show ((6+N:Nat):Int)=6+(N:Int) by omega]at C;have P:=Lib.hid C;clear C
    go_still_tail 13,(by kernel_rfl)
    go_wp2_with fail
    refine P.o.mono ?_;rintro e wC ⟨rfl,bC,bD⟩;obtain⟨s5,bU⟩:=zD (doE s4 (6+N,zS,false));have bb:Hid (s5.W.length<=800038):=(by have O:=kY s4 (6+N,zS,false);rw[bU.o]at O;have h2:=an.o;show _<=_;omega);rw[bU.o]at bC;have bI:=Lib.hid bC;have d3:=Lib.hid ((bD f I.o.2).trans HH.o);have c3:=Lib.hid (HT.o.keep (W':=wC) (G':=GT) (fun i c=>bD i (m.o i c).1) (fun _ c=>c));clear bC bD HC HH HT dg P i3 A u z r d H an;obtain⟨A,u,z,r,d,H⟩:=bI.o.cells;go_wp2_with fail
    refine (bI.o.flush j.o).mono ?_;rintro e wD ⟨rfl,bA,bG⟩;obtain⟨s6,bO⟩:=zD (doE s5 barR);have a9:Hid (s6.W.length<=800039):=(by have O:=kY s5 barR;rw[bO.o]at O;have h2:=bb.o;show _<=_;omega);rw[bO.o]at bA;have ax:=Lib.hid bA;have cK:=Lib.hid ((bG f I.o.2).trans d3.o);have dx:=Lib.hid (c3.o.keep (W':=wD) (G':=GT) (fun i c=>bG i (m.o i c).1) (fun _ c=>c));clear bA bG bI d3 c3 A u z r d H bb;have ao:∀W:World,(Instr.makeSlice 23 (.int .i64 64) (.int .i64 64)).run prog W=.ok (.slice (some ⟨W.heap.size,0,none⟩) 64 64) (W.alloc (.cells (u8s Z).toArray 5)):=fun W=>(by rw[HZ.o];exact jl 64 64 rfl (by omega) W);obtain⟨A,u,z,r,d,H⟩:=ax.o.cells
    go_upto_region 25 with fail
    clear ao;have a5:=zT wD (.cells (u8s Z).toArray 5);have a0:=(ax.o.below j.o (zB.alloc zL (.cells (u8s Z).toArray 5))).mono (G':=fun i=>G i\/i=wD.heap.size) (fun i c=>c.imp id (fun h=>⟨by omega,by subst h;simp⟩));have cj:∀i,G i->i≠wD.heap.size:=fun i c=>(by have:=ax.o.own c;omega);have ch:=tf cK.o (.cells (u8s Z).toArray 5);have de:=dx.o.keep (W':=wD.alloc (.cells (u8s Z).toArray 5)) (G':=GT) (fun i c=>vj _ _ i (ax.o.own (m.o i c).1)) (fun _ c=>c);have aj:=Lib.hid cj;clear A u z r d H ax cK dx cj;generalize wD.alloc (.cells (u8s Z).toArray 5)=wE at *
    generalize wD.heap.size=K at *
    have z0:wE.cell? (K,0)=some (.int .u8 0):=(by rw[zC a5,HZ.o];rfl);have f0:wE.frozen? (K,0)=false:=zF a5;have dy:K<wE.heap.size:=xL a5;have bw:=jE (i:=0) a5 (.int .u8 67);rw[kP]at bw;have aa:yK (fun i=>G i\/i=K) wE (wE.setCell (K,0) (.int .u8 67)):=yK.setCell (F:=fun i=>G i\/i=K) (zu rfl) _;have c7:=(a0.mem j.o aa).mono (G':=fun i=>G i\/i=K) (fun i c=>zt c);have cu:=(yC wE ⟨K,0,none⟩ (.int .u8 67) f (aj.o f I.o.2)).trans ch;have cl:=de.keep (W':=wE.setCell (K,0) (.int .u8 67)) (G':=GT) (fun i c=>yC wE _ _ i (aj.o i (m.o i c).1)) (fun _ c=>c);have bZ:=Lib.hid bw;have Y:=Lib.hid c7;have ak:=Lib.hid cu;have c5:=Lib.hid cl;clear a5 a0 ch de bw aa c7 cu cl;go_wp2;obtain⟨A,u,z,r,d,H⟩:=Y.o.cells;generalize wE.setCell (K,0) (.int .u8 67)=wF at *
    clear z0 f0 dy;have aq:=Lib.hid (i8 (sq+1) (by omega) (by omega) wF wF.drew (zB.drew) rfl);refine vZ ?_
    go_region_held_law (fun w'=>w'.cell? (gl,3)=some (.int .u32 (sq+1)))
     (first
      | (go_keep;done)
      | exact m1
      | exact m2)
     (first
      | (
       go_at_call 93;refine aq.o.mono ?_;rintro e w9 ⟨rfl,ad,az⟩
       have m1:w9.cell? (gl,3)=some (.int .u32 (sq+1)):=(ad.cell (p:=⟨gl,3,none⟩) d).trans r;have M:=Lib.hid ad;have ar:=Lib.hid az;clear ad az)
      | (
       refine KS (some 132) (by rfl) (by rfl) _ _ _ _ (by rfl) 5 u8sT jd K 1 63 63 _ (by rfl) (by rfl) (Z.set 0 67) (uS (sq+1)) 5 (we M.o bZ.o) ar.o (by simp[uS]) (by simp[uS]) (by rw[HZ.o];simp[uS,zS]) ?_;have q:=Y.o.copied j.o M.o (g:=K) (zu rfl) (u8s (over (Z.set 0 67) 1 (uS (sq+1)))).toArray;have ab:=yi w9 K _ (u8s (over (Z.set 0 67) 1 (uS (sq+1)))).toArray _ _ (we M.o bZ.o);have J:=(yZ w9 K f (u8s (over (Z.set 0 67) 1 (uS (sq+1)))).toArray (aj.o f I.o.2)).trans (we M.o ak.o);have X:=c5.o.keep (W':=w9.setRow K (u8s (over (Z.set 0 67) 1 (uS (sq+1)))).toArray) (G':=GT) (fun i c=>(yZ w9 K i _ (aj.o i (m.o i c).1)).trans (M.o.block i (Y.o.own (zt (m.o i c).1)))) (fun _ c=>c);generalize w9.setRow K (u8s (over (Z.set 0 67) 1 (uS (sq+1)))).toArray=wG at *
       have m2:wG.cell? (gl,3)=some (.int .u32 (sq+1)):=q.cells.2.2.2.1;have aP:=Lib.hid q;have bX:=Lib.hid ab;have cw:=Lib.hid J;have d7:=Lib.hid X;clear q ab J X))
    refine uz ?_;simp only[Act.put,zM,yj,yh];clear m1 m2 ar M Y bZ ak c5 aq A u z r d H;have b5:=aP.o.drew.jws dG.o cN.o bP.o;rw[HN.o]at b5;have bq:=YK _ E wG.drew b5 (by rw[HN.o];omega);rw[HL.o]at bq;have bN:=Lib.hid (bq.mono (R':=fun e w'=>e=.returned (.int .u32 (sumW L))/\Below wG wG w') fun e w' h=>⟨h.1,(xW wG wG).drew.trans h.2⟩);clear bq;have aM:=Lib.hid (Z7 L);clear b5;obtain⟨sm,bj⟩:=zD (sumW L);rw[bj.o]at bN aM;go_wp2_with fail
    refine vZ ?_
    go_region_held_law (fun _=>True)
     (trivial)
     (first
      | (
       go_at_call 94;refine bN.o.mono ?_;rintro e cT ⟨rfl,bk⟩
       have bh:=Lib.hid bk;clear bk)
      | (
       go_at_call 93;refine (i8 sm aM.o.1 aM.o.2 cT cT zB rfl).mono ?_;rintro e aF ⟨rfl,bc,bd⟩
       have S:=Lib.hid (Below.step bh.o bc);have ba:=Lib.hid bd;clear bc bd)
      | (
       refine KS (some 138) (by rfl) (by rfl) _ _ _ _ (by rfl) 5 u8sT jd K 5 59 59 _ (by rfl) (by rfl) (over (Z.set 0 67) 1 (uS (sq+1))) (uS sm) 5 (we S.o bX.o) ba.o (by simp[uS]) (by simp[uS]) (by rw[HZ.o,WC (by simp[zS,uS])];simp[uS,zS]) ?_;have q:=aP.o.copied j.o S.o (g:=K) (zu rfl) (u8s (over (over (Z.set 0 67) 1 (uS (sq+1))) 5 (uS sm))).toArray;have ab:=yi aF K _ (u8s (over (over (Z.set 0 67) 1 (uS (sq+1))) 5 (uS sm))).toArray _ _ (we S.o bX.o);have J:=(yZ aF K f (u8s (over (over (Z.set 0 67) 1 (uS (sq+1))) 5 (uS sm))).toArray (aj.o f I.o.2)).trans (we S.o cw.o);have X:=d7.o.keep (W':=aF.setRow K (u8s (over (over (Z.set 0 67) 1 (uS (sq+1))) 5 (uS sm))).toArray) (G':=GT) (fun i c=>(yZ aF K i _ (aj.o i (m.o i c).1)).trans (S.o.block i (aP.o.own (zt (m.o i c).1)))) (fun _ c=>c);generalize aF.setRow K (u8s (over (over (Z.set 0 67) 1 (uS (sq+1))) 5 (uS sm))).toArray=wH at *
       have bQ:=Lib.hid q;have dr:=Lib.hid ab;have cV:=Lib.hid J;have cG:=Lib.hid X;clear q ab J X))
    refine uz ?_;simp only[Act.put,zM,yj,yh];clear aP bX cw d7 bh S ba bN aM;obtain⟨A,u,z,r,d,H⟩:=bQ.o.cells;have C:=bQ.o.drew.write j.o 5 (by omega) f 64 (py (sq+1) L) (WT _ _ _) (zt I.o.2) cV.o (by rw[zv (by simp[vO,py,WT])]) (by have:=a9.o;omega);have P:=Lib.hid C;clear C;go_wp2_with fail
    go_still_tail 9,(by kernel_rfl)
    go_wp2_with fail
    refine P.o.mono ?_;rintro e wI ⟨rfl,bW,b6⟩;obtain⟨s7,bR⟩:=zD (doE s6 (5,py (sq+1) L,false));have aB:Hid (s7.W.length<=800040):=(by have O:=kY s6 (5,py (sq+1) L,false);rw[bR.o]at O;have h2:=a9.o;show _<=_;omega);rw[bR.o]at bW;have bE:=Lib.hid bW;have cU:=Lib.hid ((b6 K (zu rfl)).trans dr.o);have cP:=Lib.hid (cG.o.keep (W':=wI) (G':=GT) (fun i c=>b6 i (zt (m.o i c).1)) (fun _ c=>c));clear bW b6 bQ cV dr cG P A u z r d H a9;obtain⟨A,u,z,r,d,H⟩:=bE.o.cells;have i3:=zW (6+(N:Int));go_wp2_with fail
    have C:=bE.o.drew.write j.o (6+N) (by omega) K 64 (qS (sq+1) sm) (L1 _ _) (zu rfl) cU.o (by rw[HZ.o];show (u8s (qS (sq+1) sm)).take 64=_;rw[zv (by rw[vO,L1];exact zL)]) (by have:=aB.o;omega);rw[show ((6+N:Nat):Int)=6+(N:Int) by omega]at C;have P:=Lib.hid C;clear C
    go_still_tail 13,(by kernel_rfl)
    go_wp2_with fail
    refine P.o.mono ?_;rintro e wJ ⟨rfl,bK,dp⟩;obtain⟨s8,bV⟩:=zD (doE s7 (6+N,qS (sq+1) sm,false));have bl:Hid (s8.W.length<=800041):=(by have O:=kY s7 (6+N,qS (sq+1) sm,false);rw[bV.o]at O;have h2:=aB.o;show _<=_;omega);rw[bV.o]at bK;have bu:=Lib.hid bK;have da:=Lib.hid (cP.o.keep (W':=wJ) (G':=GT) (fun i c=>dp i (zt (m.o i c).1)) (fun _ c=>c));clear bK dp bE cU cP P A u z r d H aB i3;obtain⟨A,u,z,r,d,H⟩:=bu.o.cells;go_wp2_with fail
    refine (bu.o.flush j.o).mono ?_;rintro e wK ⟨rfl,bv,c9⟩;obtain⟨s9,bB⟩:=zD (doE s8 barR);have cq:Hid (s9.W.length<=800042):=(by have O:=kY s8 barR;rw[bB.o]at O;have h2:=bl.o;show _<=_;omega);rw[bB.o]at bv;have bp:=Lib.hid bv;have cL:=Lib.hid (da.o.keep (W':=wK) (G':=GT) (fun i c=>c9 i (zt (m.o i c).1)) (fun _ c=>c));clear bv c9 bu da A u z r d H bl;obtain⟨A,u,z,r,d,H⟩:=bp.o.cells;have b2:=Lib.hid (bp.o.runs aE j.o cL.o (fun x hx=>by obtain⟨y,hy,rfl⟩:=zV.1 hx;exact (HG.o.n y hy).2) (by show (emit L).length<=100;unfold emit;rw[yw,ai.o];omega) (by have:=cq.o;omega));have dR:Hid (runE s9 (pM (emit L) 0)=runE st (opsJ (sq+1) L)):=(by show _=_;unfold opsJ opsB opsA;rw[Zf,Zf,Zf];show _=runE (doE (doE (doE (doE (doE (runE (doE (doE (doE st barR) (5,zS,false)) barR) (oP L L.length)) (6+L.length,zS,false)) barR) (5,py (sq+1) L,false)) (6+L.length,qS (sq+1) (sumW L),false)) barR) _;rw[ai.o,bj.o,cY.o,dt.o,cH.o,b9.o,bU.o,bO.o,bR.o,bV.o,bB.o]);rw[dR.o]at b2;go_wp2_with fail
    refine b2.o.mono ?_;rintro e wL ⟨rfl,cO⟩;have dU:=Lib.hid cO;clear cO bp cL b2 A u z r d H;go_wp2;go_ret;exact⟨rfl,dU.o⟩
 rw[<-HL.o]at a4;exact a4
def opsC (sq:Int) (L:List Wr):List Rb:=if L=[] then [barR] else opsJ (sq+1) L
def seqC (sq:Int) (L:List Wr):Int:=if L=[] then sq else sq+1
theorem N2 (f:64<=kd) (g:kd<=256) (h:CS kd w a gl F st sq (fun _=>False) w) (d:¬F gl/\gl<w.heap.size) (v:Value) (E:List Jw) (k:qA w b B v E) (l:∀x∈E,pB F gl x.v) (i:pB F gl v) (m:mX kd (E.map jab)) (j:0<=sq/\sq<=1000) (n:st.W.length<800000):
 Calls prog 45 #[(gl,()),v] w fun e w'=>e=.returned ()/\CS kd w a gl F (runE st (opsC sq (E.map jab))) (seqC sq (E.map jab)) (fun _=>False) w':=by
 cases E with
 | nil=>
  obtain⟨p,c,rfl,_⟩:=WE (xT.of_owns k.1);exact MO h d p c
 | cons x E=>
  have:=MN f g h d v (x::E) k l i m (by simp) j n;unfold opsC seqC;rw[zb (by simp),zb (by simp)];exact this
