import Derived.Test.YtmanoiagchpelaaGreatDoorKA23
set_option maxHeartbeats 0
set_option linter.all false
set_option maxRecDepth 100000
namespace Go.Proofs.YtmanoiagchpelaaGreatDoor
open Go.Proofs.Tryz Go.RowKit
variable {B b gl k kd:Nat} {D:List Int} {E:List Jw} {F G G':Nat->Prop} {L:List Wr} {W W' w:World} {a:Addr} {sq:Int} {st:Dk} {v:Value} {x:Jw}
def CS (kd:Nat) (w:World) (a:Addr) (gl:Nat) (F:Nat->Prop) (st:Dk) (sq:Int) (G:Nat->Prop) (W:World):Prop:=
 ∃F',uS W (.pointer (some a)) st kd F'/\(∀i,F' i->F i\/w.heap.size<=i)/\(∀i,G i->i<W.heap.size/\w.heap.size<=i/\¬F' i)/\yQ (fun i=>F i\/i=gl) w W/\W.heap[gl]?=some (.cells (logC a sq) 198)
section
variable {kd : Nat} {w : World} {a : Addr} {gl : Nat} {F : Nat->Prop} {st st' : Dk} {sq : Int} {G : Nat->Prop} {W W' : World}
theorem CS.did (h:CS kd w a gl F st sq G W) (r:¬F gl/\gl<w.heap.size) {F':Nat->Prop} (q:∀i,F' i->F i\/w.heap.size<=i) (s:∀i,G i->¬F' i) (t:Did (.pointer (some a)) st' kd F' W W'):CS kd w a gl F st' sq G W'/\∀i,G i->W'.heap[i]?=W.heap[i]? :=by
 obtain⟨n,p,o,k,g,j⟩:=h;obtain⟨m,l,f,d⟩:=t;have c:∀i,G i->i<W.heap.size/\w.heap.size<=i:=fun i b=>⟨(k i b).1,(k i b).2.1⟩;refine⟨⟨m,l,fun i b=>?_,fun i b=>⟨zo (c i b).1 d.size,(c i b).2,fun e=>?_⟩,g.trans d (fun i b=>?_),?_⟩,fun i b=>d.block i (c i b).1 (s i b)⟩
 .rcases f i b with h|h
  .exact q i h
  .exact zu (zt g.size h)
 .rcases f i e with h|h
  .exact s i b h
  .have:=(c i b).1;omega
 .rcases q i b with h|h
  .exact zr (zr h)
  .exact zu h
 .refine (d.block gl (xR j) (fun e=>?_)).trans j;rcases q gl e with h|h
  .exact r.1 h
  .omega
theorem CS.mem (h:CS kd w a gl F st sq G W) (p:¬F gl/\gl<w.heap.size) (o:yQ G W W'):CS kd w a gl F st sq (fun i=>G i\/(W.heap.size<=i/\i<W'.heap.size)) W':=by
 obtain⟨k,f,l,c,e,g⟩:=h;refine⟨k,f.keep o (fun i b d=>(c i d).2.2 b),l,fun i b=>?_,e.trans o (fun i b=>zu (c i b).2.1),(o.block gl (xR g) (fun d=>by have:=(c gl d).2.1;omega)).trans g⟩;rcases b with b|⟨j,m⟩
 .exact⟨zo (c i b).1 o.size,(c i b).2.1,(c i b).2.2⟩
 .exact⟨m,zt e.size j,fun n=>by have:=f.fin i n;omega⟩
theorem CS.below (h:CS kd w a gl F st sq G W) (b:¬F gl/\gl<w.heap.size) (c:Below W W W'):CS kd w a gl F st sq (fun i=>G i\/(W.heap.size<=i/\i<W'.heap.size)) W':=h.mem b (yQ.of_below c)
theorem CS.mono (h:CS kd w a gl F st sq G W) (k:∀i,G' i->G i):CS kd w a gl F st sq G' W:=by obtain⟨b,e,c,g,d,f⟩:=h;exact⟨b,e,c,fun i j=>g i (k i j),d,f⟩
theorem CS.drew (h:CS kd w a gl F st sq G W):CS kd w a gl F st sq G W.drew:=by obtain⟨b,e,c,g,d,f⟩:=h;exact⟨b,e.drew,c,g,d.drew,f⟩
theorem CS.count (h:CS kd w a gl F st sq G W) (m:¬F gl/\gl<w.heap.size) (sq'):CS kd w a gl F st sq' G (W.setCell (gl,3) (.int .u32 sq')):=by
 obtain⟨f,j,d,e,g,k⟩:=h;have c:yQ (fun i=>i=gl) W (W.setCell (gl,3) (.int .u32 sq')):=yQ.setCell (F:=fun i=>i=gl) rfl _;refine⟨f,j.keep c (fun i b l=>?_),d,fun i b=>⟨zo (e i b).1 c.size,(e i b).2⟩,g.trans c (fun i b=>zr (zu b)),?_⟩
 .subst l;rcases d i b with h|h
  .exact m.1 h
  .omega
 .have:=jW (i:=3) k (.int .u32 sq');simpa[logC]using this
theorem CS.log (h:CS kd w a gl F st sq G W):W.heap[gl]?=some (.cells (logC a sq) 198):=by obtain⟨c,f,d,g,e,b⟩:=h;exact b
theorem CS.cells (h:CS kd w a gl F st sq G W):W.cell? (gl,0)=some (.pointer (some a))/\W.cell? (gl,1)=some (.int .i64 5)/\W.cell? (gl,2)=some (.int .i64 32)/\W.cell? (gl,3)=some (.int .u32 sq)/\gl<W.heap.size/\W.frozen? (gl,3)=false:=by have b:=h.log;exact⟨zC b,zC b,zC b,zC b,xR b,zF b⟩
theorem CS.own (h:CS kd w a gl F st sq G W) {i:Nat} (j:G i):i<W.heap.size:=by obtain⟨c,f,d,b,e,g⟩:=h;exact (b i j).1
theorem CS.keeps (h:CS kd w a gl F st sq G W):yQ (fun i=>F i\/i=gl) w W:=by obtain⟨c,e,d,g,b,f⟩:=h;exact b
theorem CS.flush (h:CS kd w a gl F st sq G W) (o:¬F gl/\gl<w.heap.size):Calls prog 109 #[.pointer (some a)] W fun e W'=>e=.returned (.tuple #[])/\CS kd w a gl F (doE st barR) sq G W'/\∀i,G i->W'.heap[i]?=W.heap[i]? :=by have g:=h;obtain⟨l,f,d,j,m,n⟩:=h;exact (fJ f).mono fun e W' ⟨c,b⟩=>⟨c,g.did o d (fun i k=>(j i k).2.2) b⟩
theorem CS.write (h:CS kd w a gl F st sq G W) (t:¬F gl/\gl<w.heap.size) (n) (x:n<kd) (g c) (D) (u:D.length=64) (v:G g) {cur:Array Value} (y:W.heap[g]?=some (.cells cur 5)) (z:cur.toList.take 64=u8s D) (A:st.W.length<1000000):
 Calls prog 105 #[.pointer (some a),.int .i64 n,.slice (some ⟨g,0,none⟩) 64 c] W fun e W'=>e=.returned ()/\CS kd w a gl F (doE st (n,D,false)) sq G W'/\∀i,G i->W'.heap[i]?=W.heap[i]? :=by
 have m:=h;obtain⟨p,l,k,b,r,s⟩:=h;rw[KV];exact (jM l n x _ D u (fun q f=>pD u ((f.block g (b g v).1 (b g v).2.2).trans y) z) A).mono fun e W' ⟨j,d⟩=>⟨j,m.did t k (fun i o=>(b i o).2.2) d⟩
def pK (F:Nat->Prop) (gl:Nat) (v:Value):Prop:=∀q,v.ownBlock=some q->¬F q/\q≠gl
theorem CS.write_arg (h:CS kd w a gl F st sq G W) (J:¬F gl/\gl<w.heap.size) (n) (K:n<kd) (L:ni w B x) (M:pK F gl x.v) (N:st.W.length<1000000):
 Calls prog 105 #[.pointer (some a),.int .i64 n,x.v] W fun e W'=>e=.returned ()/\CS kd w a gl F (doE st (n,x.D,false)) sq G W'/\∀i,G i->W'.heap[i]?=W.heap[i]? :=by
 have p:=h;obtain⟨s,u,k,z,t,I⟩:=h;obtain⟨_,l,f,H,y,d,_,c,q⟩:=id L;have b:=M f (by rw[d];rfl);have m:=(t.block f (xR c) (fun j=>j.elim b.1 b.2)).trans c;have g:¬s f:=fun j=>by
  rcases k f j with h|h
  .exact b.1 h
  .exact zY (xR c) (xQ h)
 rw[KV,d];exact (jM u n K _ x.D l (fun E r=>pD l ((r.block f (xR m) g).trans m) q) N).mono fun e W' ⟨C,o⟩=>⟨C,p.did J k (fun i A=>(z i A).2.2) o⟩
end
def TD (W:World) (G:Nat->Prop) (b:Nat) (v:Value) (L:List Rb):Prop:=∃E,E.map rab=L/\W.ownsRow b 204 3 v E.length (tb E)/\(∀q,v.ownBlock=some q->G q)/\∀x∈E,x.b=false/\x.n<256/\x.D.length=64/\∃g cap cur,x.v=.slice (some ⟨g,0,none⟩) 64 cap/\G g/\W.heap[g]?=some (.cells cur 5)/\cur.toList.take 64=u8s x.D
theorem TD.nil (W) (G) (b):TD W G b (.slice none 0 0) []:=⟨[],rfl,xd _ _ _ _,fun q c=>by simp[Value.ownBlock]at c,fun x a=>by simp at a⟩
theorem TD.keep {L:List Rb} (h:TD W G b v L) (u:∀i,G i->W'.heap[i]?=W.heap[i]?) (w:∀i,G i->G' i):TD W' G' b v L:=by obtain⟨E,n,j,f,m⟩:=h;refine⟨E,n,oW j fun q a=>u q (f q a),fun q a=>w q (f q a),fun x p=>?_⟩;obtain⟨r,o,s,g,c,d,t,e,l,k⟩:=m x p;exact⟨r,o,s,g,c,d,t,w g e,(u g e).trans l,k⟩
theorem TD.run {L:List Rb} (h:TD W G b v L):∃E,E.map rab=L/\rI W v E/\∀x∈E,RqOk W x:=by obtain⟨E,k,e,q,f⟩:=h;refine⟨E,k,rI.of_owns e,fun x o=>?_⟩;obtain⟨d,n,a,g,l,c,j,p,i,m⟩:=f x o;refine zu ⟨d,n,?_,a⟩;rw[j];exact pD a i m
def zS : List Int:=List.replicate 64 0
def mg (sq:Int) (L:List Wr):Nat->List Int
 | 0=>over ((zS.set 0 74).set 5 L.length) 1 (uY sq)
 | k+1=>(mg sq L k).set (6+k) (((L[k]?.getD (0,[])).1))
def pI (sq:Int) (L:List Wr):List Int:=mg sq L L.length
def qU (sq sm:Int):List Int:=over (over (zS.set 0 67) 1 (uY sq)) 5 (uY sm)
def oT (L:List Wr):Nat->List Rb
 | 0=>[]
 | k+1=>oT L k++[(6+k,(L[k]?.getD (0,[])).2,false)]
def opsA (L:List Wr):List Rb:=[barR,(5,zS,false),barR]++oT L L.length
def opsB (sq:Int) (L:List Wr):List Rb:=opsA L++[(6+L.length,zS,false),barR,(5,pI sq L,false),(6+L.length,qU sq (sumW L),false),barR]
def opsJ (sq:Int) (L:List Wr):List Rb:=opsB sq L++qA (emit L) 0
theorem kP: zS.length=64:=by simp[zS]
theorem Vy {l:List Int} {o:Nat} (h:o+D.length<=l.length):(over l o D).length=l.length:=by unfold over;rw[zm,zm,zj,yB];omega
theorem VN (sq) (L):∀k,(mg sq L k).length=64
 | 0=>by rw[mg,Vy (by simp[zS,uY])];simp[zS]
 | k+1=>by rw[mg,xK];exact VN sq L k
theorem Ky (sq sm):(qU sq sm).length=64:=by unfold qU;rw[Vy (by rw[Vy (by simp[zS,uY])];simp[zS,uY]),Vy (by simp[zS,uY])];simp[zS]
theorem jf (L) (i) (x):(u8s L).toArray.setIfInBounds i (.int .u8 x)=(u8s (L.set i x)).toArray:=by unfold u8s;rw[th];simp
structure ld (kd:Nat) (L:List Wr):Prop where
 n:∀x∈L,(x.1<5\/37<=x.1)/\x.1<kd
 d:(L.map fun x=>x.1).Nodup
 l:L.length<=30
theorem TB (S) (l) (f:∀x∈l,(x.1<5\/37<=x.1)/\x.1<kd/\x.2=64) (e:(S++l.map fun x=>x.1).Nodup):rJ kd S l=0:=by
 induction l generalizing S with
 | nil=>rfl
 | cons x l a=>
  have d:=f x (by simp);rw[rJ,zb (by omega),zb]
  .refine a _ (fun y b=>f y (by simp[b])) ?_;rw[zP];exact e
  .rw[ux];intro c;rw[vf]at e;exact e.2.2 x.1 c x.1 (by simp) rfl
theorem NK (g:ld kd (E.map jab)) (h:∀x∈E,ni w B x):fZ kd E=0:=by
 have f:E.length<=30:=by have:=g.l;rwa [yp]at this
 unfold fZ;rw[zb (by omega)];refine TB [] _ (fun y e=>?_) ?_
 .obtain⟨x,b,rfl⟩:=zU.1 e;have a:=g.n (jab x) (zU.2 ⟨x,b,rfl⟩);have c:=(h x b).2.1;exact⟨a.1,a.2,c⟩
 .rw[yU,vr];have:=g.d;rw[vr]at this;exact this
theorem P6 (h:ni w B x):Xg x:=by obtain⟨d,c,g,a,b,e,_⟩:=h;exact⟨d,by omega,_,a,by rw[e,c]⟩
theorem Lw (h:CS kd w a gl F st sq (fun _=>False) w) (y:¬F gl/\gl<w.heap.size) (p) (c):
 Calls prog 90 #[(gl,()),.slice p 0 c] w fun e w'=>e=.returned ()/\CS kd w a gl F (doE st barR) sq (fun _=>False) w':=by
 have l:Hid (Calls prog 138 #[(gl,()),.slice p 0 c] w fun e w'=>e=.returned ()/\Below w w w'):=by obtain⟨v,k,_⟩:=id h;exact XA k h.log (.slice p 0 c) [] ⟨rfl,zr ⟨rfl,p,c,rfl⟩⟩ (by simp) (by simp)
 have m:=za h;have d:=za y;clear h y;go_enter func90,ntmps90;go_wp2_with fail
 refine l.o.mono ?_;rintro e u ⟨rfl,g⟩;have b:=za ((m.o.below d.o g).mono (G':=fun _=>False) (fun _ h=>h.elim));clear g;obtain⟨q,s,t,n,j,r⟩:=b.o.cells;go_wp2_with fail
 refine (b.o.flush d.o).mono ?_;rintro e x ⟨rfl,f,_⟩;have i:=za f;clear f q s t n r;go_wp2;go_ret;exact⟨rfl,i.o⟩
theorem gL (n) (b:0<=n) (c:n<4294967296) (w W : World) (d : Below w w W) (a:W.heap.size=w.heap.size):Calls prog 139 #[.int .u32 n] W fun e w'=>e=.returned (.slice (some ⟨w.heap.size,0,none⟩) 4 4)/\Below w w w'/\vQ w' (.slice (some ⟨w.heap.size,0,none⟩) 4 4) (uY n):=by refine (SL n b c W).mono ?_;rintro e w' ⟨rfl,rfl⟩;rw[<-a];refine⟨rfl,?_,pD (cur:=(u8s (uY n)).toArray) rfl (zT W _) (by simp[u8s,uY])⟩;rw[a];exact d.alloc (by omega) _
theorem CS.copied (h:CS kd w a gl F st sq G W) (c:¬F gl/\gl<w.heap.size) (d:Below W W W') {g:Nat} (e:G g) (cs):CS kd w a gl F st sq G (W'.setRow g cs):=
 (h.mem c ((yQ.of_below d).step (yQ.setRow e cs))).mono fun _ b=>zr b
theorem TD.snoc {W2 W4:World} {gg g2 cap2 cap4:Nat} {E:List Rq} {n:Nat} {cur2:Array Value} {o:Obj}
 (K:W.ownsRow b 204 3 v E.length (tb E)) (L:∀q,v.ownBlock=some q->G q)
 (M:∀x∈E,x.b=false/\x.n<256/\x.D.length=64/\∃g cap cur,x.v=.slice (some ⟨g,0,none⟩) 64 cap/\G g/\W.heap[g]?=some (.cells cur 5)/\cur.toList.take 64=u8s x.D)
 (C:Below W W W2) (F:W.heap.size<=g2) (H:W2.heap[g2]?=some (.cells cur2 5)) (I:cur2.toList.take 64=u8s D) (N:n<256) (O:D.length=64)
 (B:W4.ownsRow b 204 3 (gg,0,(E.length+1),cap4) (E.length+1) (tb E++[.int .i64 n,.slice (some ⟨g2,0,none⟩) 64 cap2,.bool false]))
 (A:(W2.alloc o).grownBy W4 v.ownBlock) (J:v.ownBlock=some gg\/gg=W2.heap.size+1):
 TD W4 (fun i=>G i\/(W.heap.size<=i/\i<W4.heap.size)) b (gg,0,(E.length+1),cap4) (E.map rab++[(n,D,false)])/\yQ G W W4:=by
 have s:(W2.alloc o).heap.size=W2.heap.size+1:=by simp
 have p:=A.size;refine⟨⟨E++[⟨n,.slice (some ⟨g2,0,none⟩) 64 cap2,D,false⟩],by rw[yy];rfl,?_,fun q f=>?_,fun x c=>?_⟩,((yQ.of_below C).step (yQ.alloc o)).step (yQ.grown A L)⟩
 .rw[zm,U3];exact B
 .have m:=(B.lt q f).2;have t:gg=q:=by simpa[Value.ownBlock]using f
  subst t;rcases J with h|h
  .exact zr (L _ h)
  .exact zu ⟨by have:=C.size;omega,m⟩
 .rcases yo.1 c with c|c
  .obtain⟨u,r,w,g,cap,cur,y,k,j,l⟩:=M x c;refine⟨u,r,w,g,cap,cur,y,zr k,?_,l⟩;have a:=qb K j (by decide);have d:=tA (wy C j) o;exact (A.block g (xR d) (yA a)).trans d
  .rw[xt]at c;subst c;have d:=tA H o;have a:v.ownBlock≠some g2:=fun z=>(by have:=(K.lt g2 z).2;omega);have e:=(A.block g2 (xR d) (yA a)).trans d;exact⟨rfl,N,O,g2,cap2,cur2,rfl,zu ⟨F,xR e⟩,e,I⟩
theorem UB (L):∀k,(oT L k).length=k
 | 0=>rfl
 | k+1=>by rw[oT,zm,UB L k];rfl
theorem O4 (hk):emit (L.take (k+1))=emit (L.take k)++[(L[k].1,L[k].2,false)]:=by unfold emit;rw[<-zR hk,yy];rfl
theorem MD (hk):oT L (k+1)=oT L k++[(6+k,L[k].2,false)]:=by rw[oT,zh hk];rfl
theorem Mj (hk):mg sq L (k+1)=(mg sq L k).set (6+k) ((L[k].1)):=by rw[mg,zh hk];rfl
theorem CS.arg (h:CS kd w a gl F st sq G W) (l:ni w B x) (m:pK F gl x.v):vQ W x.v x.D:=by obtain⟨_,_,e,k,f,c,_,d,i⟩:=id l;have b:=m e (by rw[c];rfl);have g:=(h.keeps.block e (xR d) (fun j=>j.elim b.1 b.2)).trans d;rw[c];exact pD l.2.1 g i
structure LJ (kd:Nat) (w:World) (a:Addr) (gl:Nat) (F:Nat->Prop) (st:Dk) (sq:Int) (L:List Wr) (gn gh:Nat) (Z:List Int) (k:Nat) (td:Value) (W:World):Prop where
 ex:∃G GT:Nat->Prop,CS kd w a gl F (runE st (oT L k)) sq G W/\(G gn/\G gh)/\(∀i,GT i->G i/\i≠gn/\i≠gh)/\TD W GT w td (emit (L.take k))
 hh:W.heap[gh]?=some (.cells (u8s (mg sq L k)).toArray 5 (0,0))
 hz:W.heap[gn]?=some (.cells (u8s Z).toArray 5 (0,0))
theorem CS.jws (h:CS kd w a gl F st sq G W) (f:pX w b B v E) (i:∀x∈E,pK F gl x.v) (g:pK F gl v):iB W v E:=by exact⟨wh.of_owns (oW f.1 fun q d=>h.keeps.block q (f.1.lt q d).2 fun e=>e.elim (g q d).1 (g q d).2),fun x c=>⟨(f.2 x c).1,h.arg (f.2 x c) (i x c),(f.2 x c).2.1⟩⟩
theorem CS.runs {GT:Nat->Prop} (u:kd<=256) (h:CS kd w a gl F st sq G W) (s:¬F gl/\gl<w.heap.size) {R:List Rb} (y:TD W GT b v R) (z:∀x∈R,x.1<kd) (t:R.length<=100) (A:st.W.length<900000):
 Calls prog 141 #[.pointer (some a),v] W fun e W'=>e=.returned ()/\CS kd w a gl F (runE st (qA R 0)) sq (fun _=>False) W':=by
 have k:=h.mono (G':=fun _=>False) (fun _ d=>d.elim);obtain⟨o,l,j,r,p,q⟩:=h;obtain⟨E,c,m,f⟩:=y.run;refine (Tv l v E m f (fun x f _=>?_) (by omega) ?_ A).mono fun e W' ⟨n,g⟩=>⟨n,?_⟩
 .exact z (rab x) (by rw[<-c];exact zU.2 ⟨x,f,rfl⟩)
 .rw[<-c,yp]at t;exact t
 .rw[c]at g;exact (k.did s j (fun i d=>d.elim) g).1
theorem Jn {o:Oper} {a:Act} {K:Act->World->Prop} {Q:Exit->Act->World->Prop} {ops:Array Oper} {X:Prop} (j:Option Nat) (c:o.dst=j) (e:o.guard=none) (d s) (dT sT) (k:o.op=.call {callee:=.builtin .copy,args:=#[d,s],argTypes:=#[dT,sT]}) (elem) (l:prog.underlying dT=some (.slice elem)) (f:(prog.info? elem).map (·.size)=some 1)
 (g off dLen dCap) (sv) (m:a.eval d=.slice (some ⟨g,off,none⟩) dLen dCap) (n:a.eval s=sv) (cur D) (t) (p:w.heap[g]?=some (.cells (u8s cur).toArray t (0,0)))
 (q:vQ w sv D) (r:0<D.length) (i:D.length<=dLen) (b:off+D.length<=cur.length)
 (h:K (a.put j (goInt D.length)) (w.setRow g (u8s (over cur off D)).toArray)):if Region.wanted o (yielded ops a.tmps)=true then Oper.wp prog o a w K Q else X:=
 GB e d s dT sT k elem l f g off dLen dCap sv m n cur D t p q r i b (by rw[c];exact h)
theorem Lv (aF:64<=kd) (ay:kd<=256) (h:CS kd w a gl F st sq (fun _=>False) w) (hgl:¬F gl/\gl<w.heap.size) (v) (E) (hJ:pX w b B v E) (ho:∀x∈E,pK F gl x.v) (aw:pK F gl v) (hg:ld kd (E.map jab)) (h0:0<E.length) (a0:0<=sq/\sq<=1000) (hW:st.W.length<800000):
 Calls prog 90 #[(gl,()),v] w fun e w'=>e=.returned ()/\CS kd w a gl F (runE st (opsJ (sq+1) (E.map jab))) (sq+1) (fun _=>False) w':=by
 have HR:Hid (Calls prog 138 #[(gl,()),v] w fun e w'=>e=.returned ()/\Below w w w'):=by obtain⟨F',O,_⟩:=id h;have h2:=XA O h.log v E (wh.of_owns hJ.1) (fun x hx=>P6 (hJ.2 x hx)) (by have:=hg.l;rw[yp]at this;omega);rw[NK hg hJ.2]at h2;exact h2
 have HC:=za h;have f:=za hgl;have cL:=za ho;have bP:=za aw;have HJ:=za hJ.2;have dG:=za hJ;have HG:=za hg;obtain⟨p,cp,rfl,HP⟩:=VA (wh.of_owns hJ.1);obtain⟨N,HN⟩:=zD E.length;have dW:E.length<=30:=by have:=hg.l;rwa [yp]at this
 rw[HN.o]at HP h0 dW;rw[HN.o];rw[HN.o]at HR;obtain⟨L,HL⟩:=zD (E.map jab);have ah:Hid (L.length=N):=by show _=_;rw[<-HL.o,yp];exact HN.o
 rw[HL.o]at HG;have a3:Calls prog 90 #[(gl,()),(p,N,cp)] w fun e w'=>e=.returned ()/\CS kd w a gl F (runE st (opsJ (sq+1) L)) (sq+1) (fun _=>False) w':=by
  have eM:((N:Int)==0)=false:=by rw[xr];omega
  obtain⟨eN,eJ⟩:=a0;have dV:=za hW;obtain⟨Z,HZ⟩:=zA zS;have an:∀W,(Instr.makeSlice 56 (.int .i64 64) (.int .i64 64)).run prog W=.ok (.slice (some ⟨W.heap.size,0,none⟩) 64 64) (W.alloc (.cells (u8s Z).toArray 5)):=fun W=>by rw[HZ.o];exact jB 64 64 rfl (by omega) W
  clear h hgl ho aw hJ hg hW;go_enter func90,ntmps90;go_wp2_with fail
  refine HR.o.mono ?_;rintro e w1 ⟨rfl,d7⟩;have br:=za ((HC.o.below f.o d7).mono (G':=fun _=>False) (fun _ h=>h.elim));clear d7 HR;obtain⟨A,u,z,r,s,H⟩:=br.o.cells;go_wp2_with fail
  refine (br.o.flush f.o).mono ?_;rintro e w2 ⟨rfl,du,_⟩;have bF:=za du;clear du A u z r H s br;obtain⟨A,u,z,r,s,H⟩:=bF.o.cells;have cQ:=bF.o.count f.o (sq+1);have bS:=(cQ.below f.o (zB.alloc zL (.cells (u8s Z).toArray 5))).mono (G':=fun i=>i=(w2.setCell (gl,3) (.int .u32 (sq+1))).heap.size) (fun i c=>zu ⟨by omega,by subst c;simp⟩);have bt:=zT (w2.setCell (gl,3) (.int .u32 (sq+1))) (.cells (u8s Z).toArray 5);rw[show (w2.setCell (gl,3) (.int .u32 (sq+1))).heap.size=w2.heap.size by simp[World.setCell]]at bS bt;have aV:=za bS;have bs:=za bt;clear cQ bS bt;go_wp2;have aT:Hid ((doE st barR).W.length<=800001):=by have O:=qY st barR;have h2:=dV.o;show _<=_;omega
  obtain⟨s1,cW⟩:=zD (doE st barR);rw[cW.o]at aV aT;clear bF A u z r s H HC an;generalize (w2.setCell (gl,3) (.int .u32 (sq+1))).alloc (.cells (u8s Z).toArray 5)=w4 at *
  generalize w2.heap.size=Q at *
  obtain⟨A,u,z,r,s,H⟩:=aV.o.cells
  go_still_tail 9,(by kernel_rfl)
  go_wp2_with fail
  refine (aV.o.drew.write f.o 5 (by omega) Q 64 zS kP rfl (cur:=(u8s Z).toArray) bs.o (by rw[HZ.o];simp[u8s,zS]) (by have:=aT.o;omega)).mono ?_;rintro e w5 ⟨rfl,b8,cU⟩;have d5:=za ((cU Q rfl).trans bs.o);have a1:Hid ((doE s1 (5,zS,false)).W.length<=800002):=by have O:=qY s1 (5,zS,false);have h2:=aT.o;show _<=_;omega
  obtain⟨s2,dr⟩:=zD (doE s1 (5,zS,false));rw[dr.o]at b8 a1;have bJ:=za b8;clear b8 cU A u z r s H aV bs aT;obtain⟨A,u,z,r,s,H⟩:=bJ.o.cells;go_wp2_with fail
  refine (bJ.o.flush f.o).mono ?_;rintro e w6 ⟨rfl,bT,aX⟩;have di:=za ((aX Q rfl).trans d5.o);have al:Hid ((doE s2 barR).W.length<=800003):=by have O:=qY s2 barR;have h2:=a1.o;show _<=_;omega
  obtain⟨s3,cF⟩:=zD (doE s2 barR);rw[cF.o]at bT al;have aJ:=za bT;clear bT aX A u z r s H bJ d5 a1;obtain⟨A,u,z,r,s,H⟩:=aJ.o.cells;have an:∀W,(Instr.makeSlice 56 (.int .i64 64) (.int .i64 64)).run prog W=.ok (.slice (some ⟨W.heap.size,0,none⟩) 64 64) (W.alloc (.cells (u8s Z).toArray 5)):=fun W=>by rw[HZ.o];exact jB 64 64 rfl (by omega) W
  go_upto_region 12 with fail
  clear an;have ad:=zT w6 (.cells (u8s Z).toArray 5);have az:=(aJ.o.below f.o (zB.alloc zL (.cells (u8s Z).toArray 5))).mono (G':=fun i=>i=Q\/i=w6.heap.size) (fun i c=>c.imp id (fun h=>⟨by omega,by subst h;simp⟩));have aP:Q≠w6.heap.size:=by have:=aJ.o.own (i:=Q) rfl;omega
  have cA:Hid ((w6.alloc (.cells (u8s Z).toArray 5)).heap[Q]?=some (.cells (u8s Z).toArray 5 (0,0))):=tA di.o _;clear A u z r s H aJ di;generalize w6.alloc (.cells (u8s Z).toArray 5)=w7 at *
  generalize w6.heap.size=j at *
  have z0:w7.cell? (j,0)=some (.int .u8 0):=by rw[zC ad,HZ.o];rfl
  have z5:w7.cell? (j,5)=some (.int .u8 0):=by rw[zC ad,HZ.o];rfl
  have f0:w7.frozen? (j,0)=false:=zF ad;have f5:w7.frozen? (j,5)=false:=zF ad;have dF:=xR ad;have aj:Hid (((w7.setCell (j,0) (.int .u8 74)).setCell (j,5) (.int .u8 N)).heap[j]?=some (.cells (u8s ((Z.set 0 74).set 5 N)).toArray 5 (0,0))):=by have O:=jW (i:=0) ad (.int .u8 74);rw[jf]at O;have h2:=jW (i:=5) O (.int .u8 (N:Int));rw[jf]at h2;exact h2
  have Y:yQ (fun i=>i=Q\/i=j) w7 ((w7.setCell (j,0) (.int .u8 74)).setCell (j,5) (.int .u8 N)):=(yQ.setCell (F:=fun i=>i=Q\/i=j) (zu rfl) _).step (yQ.setCell (F:=fun i=>i=Q\/i=j) (zu rfl) _);have X:=za ((az.mem f.o Y).mono (G':=fun i=>i=Q\/i=j) (fun i c=>zr c));have cK:Hid (((w7.setCell (j,0) (.int .u8 74)).setCell (j,5) (.int .u8 N)).heap[Q]?=some (.cells (u8s Z).toArray 5 (0,0))):=(yE _ _ _ _ aP).trans ((yE _ _ _ _ aP).trans cA.o);clear az Y ad;go_wp2;obtain⟨A,u,z,r,s,H⟩:=X.o.cells;generalize (w7.setCell (j,0) (.int .u8 74)).setCell (j,5) (.int .u8 (N:Int))=w8 at *
  clear z0 z5 f0 f5 dF cA;have ao:=za (gL (sq+1) (by omega) (by omega) w8 w8.drew (zB.drew) rfl);refine vF ?_
  go_region_held_law (fun w'=>w'.cell? (gl,3)=some (.int .u32 (sq+1)))
   (first
    | (go_keep;done)
    | exact m1
    | exact m2)
   (first
    | (
     go_at_call 139;refine ao.o.mono ?_;rintro e w9 ⟨rfl,ab,ax⟩
     have m1:=(ab.cell (p:=⟨gl,3,none⟩) s).trans r;have K:=za ab;have ap:=za ax;clear ab ax)
    | (
     refine Jn (some 64) (by rfl) (by rfl) _ _ _ _ (by rfl) 5 u8sT jw j 1 63 63 _ (by rfl) (by rfl) ((Z.set 0 74).set 5 (N:Int)) (uY (sq+1)) 5 (wy K.o aj.o) ap.o (by simp[uY]) (by simp[uY]) (by rw[HZ.o];simp[uY,zS]) ?_;have q:=X.o.copied f.o K.o (g:=j) (zu rfl) (u8s (over ((Z.set 0 74).set 5 (N:Int)) 1 (uY (sq+1)))).toArray;have J:=yh w9 j _ (u8s (over ((Z.set 0 74).set 5 (N:Int)) 1 (uY (sq+1)))).toArray _ _ (wy K.o aj.o);have bh:=(xh w9 j Q (u8s (over ((Z.set 0 74).set 5 (N:Int)) 1 (uY (sq+1)))).toArray aP).trans (wy K.o cK.o);generalize w9.setRow j (u8s (over ((Z.set 0 74).set 5 (N:Int)) 1 (uY (sq+1)))).toArray=dC at *
     have m2:=q.cells.2.2.2.1;have bn:=za q;have bm:=za J;have be:=za bh;clear q J bh))
  refine ul ?_;clear m1 m2 ap K X aj cK ao A u z r s H;go_wp2;have dA:Hid (LJ kd w a gl F s3 (sq+1) L Q j Z 0 (.slice none 0 0) dC):=⟨⟨_,fun _=>False,bn.o,⟨zr rfl,zu rfl⟩,fun i c=>c.elim,TD.nil _ _ _⟩,by rw[mg,ah.o,<-HZ.o];exact bm.o,be.o⟩;clear bn bm be;go_loopw [8,67] (fun td i wr=>∃k:Nat,k<=N/\i=.int .i64 k/\Hid (LJ kd w a gl F s3 (sq+1) L Q j Z k td wr)) (fun _ i _=>N-(intOf i).toNat);case atStart=>exact⟨0,ye _,rfl,dA⟩
  case round=>
   obtain⟨k,hk,rfl,T⟩:=hrel;obtain⟨G,GT,hC,hG,aG,hT⟩:=T.o.ex;by_cases s:k<N
   .obtain⟨g,o,rfl,hg,hc⟩:=HP.o (by omega);have cq:k<E.length:=(by rw[HN.o];exact s);obtain⟨e0,e1⟩:=Yd E k cq;have hx:=HJ.o E[k] (zx cq);have aO:k<L.length:=(by rw[ah.o];exact s);have cv:L[k]=jab E[k]:=(by simp only[<-HL.o,uO]);have a9:=HG.o.n L[k] (zx aO);have a2:=Mj (sq:=sq+1) aO;have a6:=MD aO;have aq:=O4 aO;rw[cv]at a9 a2 a6 aq;have b4:=cL.o E[k] (zx _);generalize E[k]=x at e0 e1 hx a9 a2 a6 aq b4;have cy:=za b4;clear b4;have HX:=za hx;obtain⟨R,xv,xD⟩:=x;obtain⟨a7,b0,gx,cx,en,da,_⟩:=hx;dsimp only[jab]at da e0 e1 a9 a2 a6 aq a7 b0;subst da;have cl:¬(F g\/g=gl):=fun hc=>hc.elim (bP.o g rfl).1 (bP.o g rfl).2;have c0:=(hC.keeps.cell (i:=o+k*2) hg cl).trans (hc _ _ e0);have c1:=(hC.keeps.cell (i:=o+(k*2+1)) hg cl).trans (hc _ _ e1);rw[<-yC]at c1;have ew:k<(N:Int):=(by omega);have hgl:=zo hg hC.keeps.size;have eQ:¬g=wr.heap.size:=(by omega);have ep:=hC.own hG.2;have em:¬j=wr.heap.size:=(by omega);have el:¬Q=wr.heap.size:=(by have:=hC.own hG.1;omega);have i6:=zW (6+k) (by omega);have ei:0<=6+(k:Int):=(by omega);have dN:6+(k:Int)<64:=(by omega);have dD:(6+(k:Int)).toNat=6+k:=(by omega);have ku:IntKind.u8.wrap R=R:=IntWalk.u8_in _ (by omega);have aX:6+k<64:=(by omega);have z6:wr.cell? (j,6+k)=(u8s (mg (sq+1) L k))[6+k]? :=(by rw[zC T.o.hh];simp);rw[qg _ _ (by rw[VN];exact aX)]at z6;have f6:wr.frozen? (j,6+k)=false:=zF T.o.hh;have HC:=za hC;have I:=za hG;have m:=za aG;have HT:=za hT;have d1:=za a2;have c6:=za a6;have dT:=za aq;have fa:=za a9;clear hC hG aG hT a2 a6 aq a9 hc e0 e1 cv;go_wp2;have U:(wr.setCell (j,6+k) (.int .u8 R)).heap.size=wr.heap.size:=(by simp[World.setCell]);have dk:=((((HC.o.mem f.o (yQ.setCell (F:=G) (p:=⟨j,6+k,none⟩) I.o.2 (.int .u8 (R:Int)))).mono (G':=G) fun i c=>zr c).below f.o (zB.alloc zL (.cells #[R,.slice (some ⟨gx,0,none⟩) 64 cx] 202)))).mono (G':=fun i=>G i\/i=wr.heap.size) (fun i c=>c.imp id (fun h=>by subst h;rw[U];exact⟨zL,by simp[U]⟩));have bY:=tA (jW (i:=6+k) T.o.hh (.int .u8 (R:Int))) (.cells #[R,.slice (some ⟨gx,0,none⟩) 64 cx] 202);rw[jf,<-d1.o]at bY;have dd:=tA ((yE wr ⟨j,6+k,none⟩ (.int .u8 (R:Int)) Q aP).trans T.o.hz) (.cells #[R,.slice (some ⟨gx,0,none⟩) 64 cx] 202);have bH:=zT (wr.setCell (j,6+k) (.int .u8 (R:Int))) (.cells #[R,.slice (some ⟨gx,0,none⟩) 64 cx] 202);rw[U]at bH;have co:=HT.o.keep (W':=(wr.setCell (j,6+k) (.int .u8 (R:Int))).alloc (.cells #[R,.slice (some ⟨gx,0,none⟩) 64 cx] 202)) (G':=GT) (fun i c=>(wX _ _ i (by rw[U];exact HC.o.own (m.o i c).1)).trans (yE wr _ _ i (m.o i c).2.2)) (fun _ c=>c);have b3:=za dk;have cG:=za bY;have cB:=za dd;have aB:=za bH;have dn:=za co;have dE:G wr.heap.size->False:=fun h=>(by have:=HC.o.own h;omega);clear dk bY dd bH co z6 f6 c0 c1 HC HT T d1 i6 ei dN dD ku U;generalize (wr.setCell (j,6+k) (.int .u8 (R:Int))).alloc (.cells #[R,.slice (some ⟨gx,0,none⟩) 64 cx] 202)=wA at *
    generalize wr.heap.size=gw at *
    obtain⟨A,u,z,r,d,H⟩:=b3.o.cells;have c0:wA.cell? (gw,0)=some (.int .i64 R):=zC aB.o;have c1:wA.cell? (gw,1)=some (.slice (some ⟨gx,0,none⟩) 64 cx):=zC aB.o;have cj:=xR aB.o;have i3:=zW (6+k) (by omega);have C:=b3.o.drew.write_arg f.o (6+k) (by omega) HX.o cy.o (by have O:=fX s3 (oT L k);rw[UB]at O;have:=al.o;omega);rw[show ((6+k:Nat):Int)=6+(k:Int) by omega]at C;have P:=za C;clear C
    go_still_tail 13,(by kernel_rfl)
    go_wp2_with fail
    refine P.o.mono ?_;rintro e wB ⟨rfl,dy,aC⟩;have au:=dy.drew;rw[<-KD,<-c6.o]at au;have aK:=za au;have dl:=(aC j (zr I.o.2)).trans cG.o;have cw:=(aC Q (zr I.o.1)).trans cB.o;have aW:=(aC gw (zu rfl)).trans aB.o;have dq:=dn.o.keep (W':=wB.drew) (G':=GT) (fun i c=>aC i (zr (m.o i c).1)) (fun _ c=>c);have aS:=za dl;have aR:=za cw;have cf:=za dq;have x0:wB.cell? (gw,0)=some (.int .i64 R):=zC aW;have x1:wB.cell? (gw,1)=some (.slice (some ⟨gx,0,none⟩) 64 cx):=zC aW;have af:=xR aW;clear dy au aC dl cw aW dq b3 cG cB aB dn c0 c1 A u z r d H i3 P cj c6;obtain⟨ET,bz,ho,h3,h4⟩:=cf.o;have dh:=za bz;have HO:=za ho;have H3:=za h3;have H4:=za h4;have eq:ET.length<=30:=(by have O:(ET.map rab).length=(emit (L.take k)).length:=(by rw[bz]);rw[yp]at O;unfold emit at O;rw[yp,zj]at O;omega);have ef:=za (aK.o.arg HX.o cy.o);have dZ:w.heap.size<=wB.heap.size:=aK.o.keeps.size;clear bz ho h3 h4 cf;have ch:=za (Xb _ xD wB.drew ef.o b0);obtain⟨i0,cm,ds,cC,cZ⟩:=xy jk;have HI:=za cm;have dO:=za ds;have ej:=za cC;have dY:=za cZ;clear cm ds cC cZ;go_wp2_with fail
    refine vF ?_
    go_region_held_law (fun w'=>w'.cell? (gw,0)=some (.int .i64 (R:Int))/\w'.cell? (gw,1)=some (.slice (some ⟨gx,0,none⟩) 64 cx))
     (first
      | exact⟨m1,m2⟩
      | exact⟨m3,m4⟩
      | (go_keep;done))
     (first
      | (
       go_at_call 134;refine ch.o.mono ?_;rintro e w2 ⟨v2,rfl,g2,bc,e5,rfl,cD,cX,c9,ac⟩
       have m1:=(ac.cell (p:=⟨gw,0,none⟩) af).trans x0;have m2:=(ac.cell (p:=⟨gw,1,none⟩) af).trans x1;have cO:=za (tB HO.o ac);have cP:=za ac;have d0:=za cD;have ct:=za cX;have ce:=za c9;have eZ:=zt dZ ac.size;have ev:=zo af ac.size;have eu:¬gw=w2.heap.size:=(by omega);clear cD cX c9 ac)
      | (
       refine tF _ (by rfl) _ _ _ (by rfl) w.heap.size 204 i0 (.agg #[(),.slice none 0 0,.bool false]) 3 40 kE HI.o dO.o ej.o dY.o rfl (by omega) _ ET.length (tb ET) (by rfl) (cO.o.alloc _)
        ⟨w2.heap.size,0,none⟩ 1 1 [.int .i64 (R:Int),.slice (some ⟨g2,0,none⟩) 64 bc,.bool false] (by rfl) (by rfl) (xE (cs:=#[.int .i64 (R:Int),.slice (some ⟨g2,0,none⟩) 64 bc,.bool false]) (t:=204) (fr:=(0,0)) (zT w2 _)) (by simp[Value.oneCell'])
        (by omega) (by unfold maxLen;omega) (by omega) (by simp;omega) (w2.heap.size+1) (by simp) ?_;intro gg cV w4 ar a5 d4 eA
       obtain⟨dg,bM⟩:=TD.snoc (n:=R) (D:=xD) HO.o H3.o H4.o cP.o d0.o ct.o ce.o a7 b0 ar a5 d4;have b1:∀i,w4.cell? ⟨gw,i,none⟩=wB.cell? ⟨gw,i,none⟩:=fun i=>bM.cell af (fun h=>dE (m.o gw h).1);have m3:=(b1 0).trans x0;have m4:=(b1 1).trans x1;have cH:=za dg;have aN:=za bM;clear dg bM b1 ar a5 d4))
    all_goals
     refine ul ?_;have dj:LJ kd w a gl F s3 (sq+1) L Q j Z (k+1) (gg,0,(ET.length+1),cV) w4:=by
      refine⟨⟨_,_,aK.o.mem f.o (aN.o.mono (F1:=fun i=>G i\/i=gw) (fun i _ c=>zr (m.o i c).1)),⟨zr (zr I.o.1),zr (zr I.o.2)⟩,fun i c=>?_,by rw[dT.o,<-dh.o];exact cH.o⟩,(aN.o.block j (xR aS.o) (fun h=>(m.o j h).2.2 rfl)).trans aS.o,(aN.o.block Q (xR aR.o) (fun h=>(m.o Q h).2.1 rfl)).trans aR.o⟩;rcases c with c|c
      .exact⟨zr (zr (m.o i c).1),(m.o i c).2⟩
      .have e1:=xR aR.o;have e2:=xR aS.o;have e3:wB.heap.size<=i:=c.1;exact⟨zu c,by omega,by omega⟩
     have df:=za dj;clear dj m1 m2 m3 m4 x0 x1 cO cP d0 ct ce cH aN HO H3 H4 dh aK aS aR;go_wp2;go_roundw;case rel=>exact⟨k+1,by omega,by go_num,df⟩
     case measure=>simp[intOf];omega
   .have ed:N=k:=(by omega);subst ed;obtain⟨s4,b9⟩:=zD (runE s3 (oT L N));rw[zv (by rw[ah.o];exact zL)]at hT;rw[b9.o]at hC;have am:Hid (s4.W.length<=800037):=(by have O:=fX s3 (oT L N);rw[UB,b9.o]at O;have h2:=al.o;show _<=_;omega);have dz:mg (sq+1) L N=pI (sq+1) L:=(by unfold pI;rw[ah.o]);have hh:=T.o.hh;rw[dz]at hh;have HH:=za hh;have de:=za T.o.hz;have HC:=za hC;have I:=za hG;have m:=za aG;have HT:=za hT;clear hC hG aG hT hh dz T;obtain⟨A,u,z,r,d,H⟩:=HC.o.cells;have i3:=zW (6+N) (by omega);have eY:¬N<(N:Int):=(by omega);go_wp2;have C:=HC.o.drew.write f.o (6+N) (by omega) Q 64 zS kP I.o.1 (cur:=(u8s Z).toArray) de.o (by rw[HZ.o];simp[u8s,zS]) (by have:=am.o;omega);rw[show ((6+N:Nat):Int)=6+(N:Int) by omega]at C;have P:=za C;clear C
    go_still_tail 13,(by kernel_rfl)
    go_wp2_with fail
    refine P.o.mono ?_;rintro e wC ⟨rfl,bC,bD⟩;obtain⟨s5,bU⟩:=zD (doE s4 (6+N,zS,false));have aZ:Hid (s5.W.length<=800038):=(by have O:=qY s4 (6+N,zS,false);rw[bU.o]at O;have h2:=am.o;show _<=_;omega);rw[bU.o]at bC;have bI:=za bC;have d2:=za ((bD j I.o.2).trans HH.o);have cz:=za (HT.o.keep (W':=wC) (G':=GT) (fun i c=>bD i (m.o i c).1) (fun _ c=>c));clear bC bD HC HH HT de P i3 A u z r d H am;obtain⟨A,u,z,r,d,H⟩:=bI.o.cells;go_wp2_with fail
    refine (bI.o.flush f.o).mono ?_;rintro e wD ⟨rfl,bA,bG⟩;obtain⟨s6,bO⟩:=zD (doE s5 barR);have a8:Hid (s6.W.length<=800039):=(by have O:=qY s5 barR;rw[bO.o]at O;have h2:=aZ.o;show _<=_;omega);rw[bO.o]at bA;have av:=za bA;have cI:=za ((bG j I.o.2).trans d2.o);have dv:=za (cz.o.keep (W':=wD) (G':=GT) (fun i c=>bG i (m.o i c).1) (fun _ c=>c));clear bA bG bI d2 cz A u z r d H aZ;have an:∀W,(Instr.makeSlice 56 (.int .i64 64) (.int .i64 64)).run prog W=.ok (.slice (some ⟨W.heap.size,0,none⟩) 64 64) (W.alloc (.cells (u8s Z).toArray 5)):=fun W=>(by rw[HZ.o];exact jB 64 64 rfl (by omega) W);obtain⟨A,u,z,r,d,H⟩:=av.o.cells
    go_upto_region 25 with fail
    clear an;have a4:=zT wD (.cells (u8s Z).toArray 5);have az:=(av.o.below f.o (zB.alloc zL (.cells (u8s Z).toArray 5))).mono (G':=fun i=>G i\/i=wD.heap.size) (fun i c=>c.imp id (fun h=>⟨by omega,by subst h;simp⟩));have ci:∀i,G i->i≠wD.heap.size:=fun i c=>(by have:=av.o.own c;omega);have cg:=tA cI.o (.cells (u8s Z).toArray 5);have dc:=dv.o.keep (W':=wD.alloc (.cells (u8s Z).toArray 5)) (G':=GT) (fun i c=>wX _ _ i (av.o.own (m.o i c).1)) (fun _ c=>c);have ai:=za ci;clear A u z r d H av cI dv ci;generalize wD.alloc (.cells (u8s Z).toArray 5)=wE at *
    generalize wD.heap.size=M at *
    have z0:wE.cell? (M,0)=some (.int .u8 0):=(by rw[zC a4,HZ.o];rfl);have f0:wE.frozen? (M,0)=false:=zF a4;have dx:=xR a4;have bw:=jW (i:=0) a4 (.int .u8 67);rw[jf]at bw;have Y:yQ (fun i=>G i\/i=M) wE (wE.setCell (M,0) (.int .u8 67)):=yQ.setCell (F:=fun i=>G i\/i=M) (zu rfl) _;have c5:=(az.mem f.o Y).mono (G':=fun i=>G i\/i=M) (fun i c=>zr c);have cr:=(yE wE ⟨M,0,none⟩ (.int .u8 67) j (ai.o j I.o.2)).trans cg;have ck:=dc.keep (W':=wE.setCell (M,0) (.int .u8 67)) (G':=GT) (fun i c=>yE wE _ _ i (ai.o i (m.o i c).1)) (fun _ c=>c);have bZ:=za bw;have X:=za c5;have aj:=za cr;have c3:=za ck;clear a4 az cg dc bw Y c5 cr ck;go_wp2;obtain⟨A,u,z,r,d,H⟩:=X.o.cells;generalize wE.setCell (M,0) (.int .u8 67)=wF at *
    clear z0 f0 dx;have ao:=za (gL (sq+1) (by omega) (by omega) wF wF.drew (zB.drew) rfl);refine vF ?_
    go_region_held_law (fun w'=>w'.cell? (gl,3)=some (.int .u32 (sq+1)))
     (first
      | (go_keep;done)
      | exact m1
      | exact m2)
     (first
      | (
       go_at_call 139;refine ao.o.mono ?_;rintro e w9 ⟨rfl,ab,ax⟩
       have m1:=(ab.cell (p:=⟨gl,3,none⟩) d).trans r;have K:=za ab;have ap:=za ax;clear ab ax)
      | (
       refine Jn (some 132) (by rfl) (by rfl) _ _ _ _ (by rfl) 5 u8sT jw M 1 63 63 _ (by rfl) (by rfl) (Z.set 0 67) (uY (sq+1)) 5 (wy K.o bZ.o) ap.o (by simp[uY]) (by simp[uY]) (by rw[HZ.o];simp[uY,zS]) ?_;have q:=X.o.copied f.o K.o (g:=M) (zu rfl) (u8s (over (Z.set 0 67) 1 (uY (sq+1)))).toArray;have aa:=yh w9 M _ (u8s (over (Z.set 0 67) 1 (uY (sq+1)))).toArray _ _ (wy K.o bZ.o);have J:=(xh w9 M j (u8s (over (Z.set 0 67) 1 (uY (sq+1)))).toArray (ai.o j I.o.2)).trans (wy K.o aj.o);have V:=c3.o.keep (W':=w9.setRow M (u8s (over (Z.set 0 67) 1 (uY (sq+1)))).toArray) (G':=GT) (fun i c=>(xh w9 M i _ (ai.o i (m.o i c).1)).trans (K.o.block i (X.o.own (zr (m.o i c).1)))) (fun _ c=>c);generalize w9.setRow M (u8s (over (Z.set 0 67) 1 (uY (sq+1)))).toArray=wG at *
       have m2:=q.cells.2.2.2.1;have aM:=za q;have bX:=za aa;have cu:=za J;have d6:=za V;clear q aa J V))
    refine ul ?_;simp only[Act.put,zK,yi,yf];clear m1 m2 ap K X bZ aj c3 ao A u z r d H;have b5:=aM.o.drew.jws dG.o cL.o bP.o;rw[HN.o]at b5;have bq:=Xr _ E wG.drew b5 (by rw[HN.o];omega);rw[HL.o]at bq;have bN:=za (bq.mono (R':=fun e w'=>e=.returned (.int .u32 (sumW L))/\Below wG wG w') fun e w' h=>⟨h.1,(x9 wG wG).drew.trans h.2⟩);clear bq;have aI:=za (YL L);clear b5;obtain⟨sm,bi⟩:=zD (sumW L);rw[bi.o]at bN aI;go_wp2_with fail
    refine vF ?_
    go_region_held_law (fun _=>True)
     (trivial)
     (first
      | (
       go_at_call 140;refine bN.o.mono ?_;rintro e cR ⟨rfl,bj⟩
       have bg:=za bj;clear bj)
      | (
       go_at_call 139;refine (gL sm aI.o.1 aI.o.2 cR cR zB rfl).mono ?_;rintro e aE ⟨rfl,ba,bb⟩
       have S:=za (zf bg.o ba);have aY:=za bb;clear ba bb)
      | (
       refine Jn (some 138) (by rfl) (by rfl) _ _ _ _ (by rfl) 5 u8sT jw M 5 59 59 _ (by rfl) (by rfl) (over (Z.set 0 67) 1 (uY (sq+1))) (uY sm) 5 (wy S.o bX.o) aY.o (by simp[uY]) (by simp[uY]) (by rw[HZ.o,Vy (by simp[zS,uY])];simp[uY,zS]) ?_;have q:=aM.o.copied f.o S.o (g:=M) (zu rfl) (u8s (over (over (Z.set 0 67) 1 (uY (sq+1))) 5 (uY sm))).toArray;have aa:=yh aE M _ (u8s (over (over (Z.set 0 67) 1 (uY (sq+1))) 5 (uY sm))).toArray _ _ (wy S.o bX.o);have J:=(xh aE M j (u8s (over (over (Z.set 0 67) 1 (uY (sq+1))) 5 (uY sm))).toArray (ai.o j I.o.2)).trans (wy S.o cu.o);have V:=d6.o.keep (W':=aE.setRow M (u8s (over (over (Z.set 0 67) 1 (uY (sq+1))) 5 (uY sm))).toArray) (G':=GT) (fun i c=>(xh aE M i _ (ai.o i (m.o i c).1)).trans (S.o.block i (aM.o.own (zr (m.o i c).1)))) (fun _ c=>c);generalize aE.setRow M (u8s (over (over (Z.set 0 67) 1 (uY (sq+1))) 5 (uY sm))).toArray=wH at *
       have bQ:=za q;have dp:=za aa;have cT:=za J;have cE:=za V;clear q aa J V))
    refine ul ?_;simp only[Act.put,zK,yi,yf];clear aM bX cu d6 bg S aY bN aI;obtain⟨A,u,z,r,d,H⟩:=bQ.o.cells;have C:=bQ.o.drew.write f.o 5 (by omega) j 64 (pI (sq+1) L) (VN _ _ _) (zr I.o.2) cT.o (by rw[zv (by simp[uo,pI,VN])]) (by have:=a8.o;omega);have P:=za C;clear C;go_wp2_with fail
    go_still_tail 9,(by kernel_rfl)
    go_wp2_with fail
    refine P.o.mono ?_;rintro e wI ⟨rfl,bW,b6⟩;obtain⟨s7,bR⟩:=zD (doE s6 (5,pI (sq+1) L,false));have aA:Hid (s7.W.length<=800040):=(by have O:=qY s6 (5,pI (sq+1) L,false);rw[bR.o]at O;have h2:=a8.o;show _<=_;omega);rw[bR.o]at bW;have bE:=za bW;have cS:=za ((b6 M (zu rfl)).trans dp.o);have cN:=za (cE.o.keep (W':=wI) (G':=GT) (fun i c=>b6 i (zr (m.o i c).1)) (fun _ c=>c));clear bW b6 bQ cT dp cE P A u z r d H a8;obtain⟨A,u,z,r,d,H⟩:=bE.o.cells;have i3:=zW (6+N) (by omega);go_wp2_with fail
    have C:=bE.o.drew.write f.o (6+N) (by omega) M 64 (qU (sq+1) sm) (Ky _ _) (zu rfl) cS.o (by rw[HZ.o];show (u8s (qU (sq+1) sm)).take 64=_;rw[zv (by rw[uo,Ky];exact zL)]) (by have:=aA.o;omega);rw[show ((6+N:Nat):Int)=6+(N:Int) by omega]at C;have P:=za C;clear C
    go_still_tail 13,(by kernel_rfl)
    go_wp2_with fail
    refine P.o.mono ?_;rintro e wJ ⟨rfl,bK,dm⟩;obtain⟨s8,bV⟩:=zD (doE s7 (6+N,qU (sq+1) sm,false));have bk:Hid (s8.W.length<=800041):=(by have O:=qY s7 (6+N,qU (sq+1) sm,false);rw[bV.o]at O;have h2:=aA.o;show _<=_;omega);rw[bV.o]at bK;have bu:=za bK;have cY:=za (cN.o.keep (W':=wJ) (G':=GT) (fun i c=>dm i (zr (m.o i c).1)) (fun _ c=>c));clear bK dm bE cS cN P A u z r d H aA i3;obtain⟨A,u,z,r,d,H⟩:=bu.o.cells;go_wp2_with fail
    refine (bu.o.flush f.o).mono ?_;rintro e wK ⟨rfl,bv,c7⟩;obtain⟨s9,bB⟩:=zD (doE s8 barR);have cn:Hid (s9.W.length<=800042):=(by have O:=qY s8 barR;rw[bB.o]at O;have h2:=bk.o;show _<=_;omega);rw[bB.o]at bv;have bp:=za bv;have cJ:=za (cY.o.keep (W':=wK) (G':=GT) (fun i c=>c7 i (zr (m.o i c).1)) (fun _ c=>c));clear bv c7 bu cY A u z r d H bk;obtain⟨A,u,z,r,d,H⟩:=bp.o.cells;have b2:=za (bp.o.runs ay f.o cJ.o (fun x hx=>by obtain⟨y,hy,rfl⟩:=zU.1 hx;exact (HG.o.n y hy).2) (by show (emit L).length<=100;unfold emit;rw[yp,ah.o];omega) (by have:=cn.o;omega));have dR:Hid (runE s9 (qA (emit L) 0)=runE st (opsJ (sq+1) L)):=(by show _=_;unfold opsJ opsB opsA;rw[ZT,ZT,ZT];show _=runE (doE (doE (doE (doE (doE (runE (doE (doE (doE st barR) (5,zS,false)) barR) (oT L L.length)) (6+L.length,zS,false)) barR) (5,pI (sq+1) L,false)) (6+L.length,qU (sq+1) (sumW L),false)) barR) _;rw[ah.o,bi.o,cW.o,dr.o,cF.o,b9.o,bU.o,bO.o,bR.o,bV.o,bB.o]);rw[dR.o]at b2;go_wp2_with fail
    refine b2.o.mono ?_;rintro e wL ⟨rfl,cM⟩;have dU:=za cM;clear cM bp cJ b2 A u z r d H;go_wp2;go_ret;exact⟨rfl,dU.o⟩
 rw[<-HL.o]at a3;exact a3
def opsC (sq:Int) (L:List Wr):List Rb:=if L=[] then [barR] else opsJ (sq+1) L
def seqC (sq:Int) (L:List Wr):Int:=if L=[] then sq else sq+1
theorem MF (f:64<=kd) (g:kd<=256) (h:CS kd w a gl F st sq (fun _=>False) w) (d:¬F gl/\gl<w.heap.size) (v) (E) (k:pX w b B v E) (l:∀x∈E,pK F gl x.v) (i:pK F gl v) (m:ld kd (E.map jab)) (j:0<=sq/\sq<=1000) (n:st.W.length<800000):
 Calls prog 90 #[(gl,()),v] w fun e w'=>e=.returned ()/\CS kd w a gl F (runE st (opsC sq (E.map jab))) (seqC sq (E.map jab)) (fun _=>False) w':=by
 cases E with
 | nil=>
  obtain⟨p,c,rfl,_⟩:=VA (wh.of_owns k.1);exact Lw h d p c
 | cons x E=>
  have:=Lv f g h d v (x::E) k l i m (by simp) j n;unfold opsC seqC;rw[zb (by simp),zb (by simp)];exact this
