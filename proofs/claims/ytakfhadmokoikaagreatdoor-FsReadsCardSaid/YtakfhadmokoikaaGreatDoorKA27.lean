import Derived.Test.YtakfhadmokoikaaGreatDoorKA7
import Derived.Test.YtakfhadmokoikaaGreatDoorKA25
import Derived.Deep.OwnRows
import Derived.Laws.EntriesVeiled
set_option maxHeartbeats 0
set_option linter.all false
set_option maxRecDepth 100000
namespace Go.Proofs.YtakfhadmokoikaaGreatDoor
open Go.Proofs.Tryz Go.RowKit
variable {D:List Int} {l:List En} {n:Nat} {o:Obj} {v:Value} {w w':World}
theorem Sa: (prog.info? 5).map (fun i=>(i.zero,i.size,i.bytes))=some (some (.int .u8 0),1,1):=by kernel_rfl
theorem Pz (n:Nat):madeCells #[Value.int .u8 0] n=(u8s (List.replicate n 0)).toArray:=by
 apply yV;intro i;unfold madeCells u8s;by_cases h:i<n
 .simp[h,qJ]
 .simp[h]
theorem Px (n:Nat) (x:Int) (a:x=n) (b:n<=1000000) (W:World):(Instr.makeSlice 23 (.int .i64 x) (.int .i64 x)).run prog W=.ok (W.heap.size,0,n,n) (W.alloc (.cells (u8s (List.replicate n 0)).toArray 5)):=by subst a;rw[<-Pz];exact run_make_row' 23 5 (.int .u8 0) 1 ig Sa rfl .i64 .i64 n (by omega) (by omega) W
theorem tY (w:World) (o:Obj):(w.alloc o).heap.size=w.heap.size+1:=by show (w.heap.push _).size=_;simp
theorem ol {i:Nat} (h:i<w.heap.size):(w.alloc o).heap[i]?=w.heap[i]? :=((xW w w).alloc zL o).block i h
theorem jA (h:n=w.heap.size):(w.alloc o).heap[n]?=some o:=by subst h;exact zT w o
theorem Hg {g cap:Nat} {t:TypeId} {fr:Nat×Nat} (h:w.heap[g]?=some (.cells (u8s D).toArray t fr)) (b:D.length=n):vC w (g,0,n,cap) D:=by refine⟨by rw[vO];omega,zu ⟨g,0,cap,by rw[b],fun j x a=>?_⟩⟩;rw[zC h,yL,<-a,<-zP]
structure gO (w:World) (v:Value) (l:List En):Prop where
 at_:rB w v l
 cap:kt v
theorem gO.below (h:gO w v l) (a:Below w w w'):gO w' v l:=⟨h.1.below a,h.2⟩
structure tQ (w:World) (v:Value) (D:List Int):Prop where
 at_:vC w v D
 cap:kt v
theorem tQ.below (h:tQ w v D) (a:Below w w w'):tQ w' v D:=⟨xT.below h.1 a,h.2⟩
def LayOk (l:List En) (w:World) (e:Ending) (w':World):Prop:=∃v,e=.returned (.tuple #[v,()])/\tQ w' v (layD l)/\Below w w w'
def jv (l:List En) (w:World) (e:Ending) (w':World):Prop:=∃v,e=.returned (.tuple #[v,()])/\tQ w' v (layD l)/\(∀b,v.ownBlock=some b->w.heap.size<=b)/\Below w w w'
theorem jv.ok {e:Ending} (h:jv l w e w'):LayOk l w e w':=by obtain⟨v,c,a,_,b⟩:=h;exact⟨v,c,a,b⟩
theorem U7 (v:Value) (l:List En) (w:World) (h:gO w v l) (q:l.length<=1000000) (r:Int) (n:tW l=r) (m:r≠0):
 Calls prog 158 #[v] w fun e w'=>e=.returned (.tuple #[.slice none 0 0,r])/\Below w w w':=by
 obtain⟨N,i⟩:=zA l.length;obtain⟨p,a,rfl,_⟩:=fD h.1 N i.o;have b:Hid (Below w w (w.alloc (.cells #[(p,N,a)] 184))):=zB.alloc zL _;have j:Hid (Calls prog 201 #[(p,N,a)] (w.alloc (.cells #[(p,N,a)] 184)) fun e w'=>e=.returned r/\Below (w.alloc (.cells #[(p,N,a)] 184)).heap.size (w.alloc (.cells #[(p,N,a)] 184)) w'):=by have:=JW (p,N,a) l (w.alloc (.cells #[(p,N,a)] 184)) (h.1.below b.o) h.2 q;rw[n]at this;exact this
 have g:(r==0)=false:=by rw[xf];exact m
 have k:(r != 0)=true:=by simp[bne,g]
 clear h n;go_enter func158,ntmps158;go_wp2_with fail
 refine j.o.mono ?_;rintro e f ⟨rfl,c⟩;have d:Hid (Below w w f):=Below.step b.o c;clear c;go_wp2
 go_returns
 exact⟨rfl,d.o⟩
theorem iI (v:Value) (l:List En) (w:World) (h:gO w v l) (hr:tW l=0):
 Calls prog 158 #[v] w (jv l w):=by
 have hz:=(rZ l).1 hr;have HZ:=Lib.hid hz;have hl:=hz.1;obtain⟨N,F⟩:=zA l.length;rw[<-F.o]at hl;obtain⟨p,E,rfl,_⟩:=fD h.1 N F.o;have ap:Hid (Below w w (w.alloc (.cells #[(p,N,E)] 184))):=zB.alloc zL _;have HR:Hid (Calls prog 201 #[(p,N,E)] (w.alloc (.cells #[(p,N,E)] 184)) fun e w'=>e=.returned ()/\Below (w.alloc (.cells #[(p,N,E)] 184)).heap.size (w.alloc (.cells #[(p,N,E)] 184)) w'):=by have:=JW (p,N,E) l (w.alloc (.cells #[(p,N,E)] 184)) (h.1.below ap.o) h.2 (by rw[<-F.o];omega);rw[hr]at this;exact this
 have HH:=Lib.hid h;have an:=zT w (.cells #[(p,N,E)] 184);have aw:=Lib.hid an;clear h hr hz an;obtain⟨M,HM⟩:=zD (16*N);have wm:IntKind.i64.wrap (16*(N:Int))=(M:Int):=by rw[zQ _ (by omega)];have:=HM.o;omega
 obtain⟨Z,ab⟩:=zA (List.replicate M (0:Int));have aV:∀W:World,(Instr.makeSlice 23 (.int .i64 (M:Int)) (.int .i64 (M:Int))).run prog W=.ok (W.heap.size,0,M,M) (W.alloc (.cells (u8s Z).toArray 5)):=fun W=>by rw[ab.o];exact Px M M rfl (by have:=HM.o;omega) W
 go_enter func158,ntmps158
 go_wp2_with fail
 refine HR.o.mono ?_;rintro e w1 ⟨rfl,ac⟩;have S:=(ac.block w (xL aw.o)).trans aw.o;have a1:w1.cell? (w.heap.size,0)=some (.slice p N E):=zC S;have ag:=Lib.hid S;have V:Hid (Below w w w1):=Below.step ap.o ac;clear ac S;go_wp2_with fail
 refine (I3 _ l w1 (HH.o.1.below V.o) (by rw[<-F.o];omega)).mono ?_;rintro e w2 ⟨v2,rfl,f,Q,aY⟩;rw[<-F.o]at f;obtain⟨u,y,rfl,_⟩:=tR f;have s:=(Q.block w (xL ag.o)).trans ag.o;have a2:w2.cell? (w.heap.size,0)=some (.slice p N E):=zC s;have f2:w2.frozen? (w.heap.size,0)=false:=zF s;obtain⟨w3,t⟩:=zD (w2.setCell (w.heap.size,0) (u,N,y));have U:w3.heap[w.heap.size]?=some (.cells #[(u,N,y)] 184):=by rw[<-t.o,sC _ _ _ _ _ _ _ s,yi _ _ _ _ _ _ s];rfl
 have k:w3.ownsRow w1 188 2 (u,N,y) N (ents l):=oT f fun b C=>by rw[<-t.o,yC _ _ _ _ (fun e=>rW f s (by decide) (by rw[C,e]))]
 have aq:Hid (Below w w w3):=by rw[<-t.o];exact (Below.step V.o Q).setCell zL _
 have z:=Ss w1 (u,N,y) l w3 (by rw[<-F.o];exact k) (by rw[<-F.o];omega);have aH:=Lib.hid z;have ay:=Lib.hid k;have R:=Lib.hid U;have a3:w3.cell? (w.heap.size,0)=some (.slice u N y):=zC U;clear f Q s k z U;have K:=a3;rw[<-t.o]at K;go_wp2_with fail
 rw[t.o];refine aH.o.mono ?_;rintro e a ⟨rfl,T,hp,hs,A,a0⟩;have aa:yK (fun i=>(Value.slice u N y).ownBlock=some i) w3 a:=yK.grown a0 fun r hr=>hr;have am:∀i,(Value.slice u N y).ownBlock=some i->w1.heap.size<=i:=fun i D=>by
  obtain⟨_,⟨I,_⟩|⟨g,X,P,I,hg,_⟩⟩:=ay.o
  .rw[I]at D;simp[Value.ownBlock]at D
  .rw[I]at D;have:g=i:=(by simpa[Value.ownBlock]using D);rw[<-this];exact hg
 have J:=(aa.block w (xL R.o) (rW ay.o R.o (by decide))).trans R.o;have a4:a.cell? (w.heap.size,0)=some (.slice u N y):=zC J;have ao:Below w w a:=aq.o.trans (aa.to_below (fun i D=>zr V.o.size (am i D)) aq.o.size);have aB:=Lib.hid J;have H:=Lib.hid ao;have aE:=Lib.hid A;have G:=Lib.hid hp;have aF:=Lib.hid hs;have aj:w.heap.size<a.heap.size:=xL J;have aK:¬w.heap.size=a.heap.size:=by omega
 clear hp hs A a0 aa am J ao K a1 a2 a3 f2 t;obtain⟨L,m⟩:=zD ((((a.alloc (.cells (u8s Z).toArray 5)).alloc (.cells #[(a.heap.size,0,M,M)] 23)).alloc (.cells #[()] 3)).alloc (.cells #[.func (.func 205) #[] #[(w.heap.size,()),.pointer (some ⟨a.heap.size+1+1+1,0,none⟩),.pointer (some ⟨a.heap.size+1,0,none⟩),.pointer (some ⟨a.heap.size+1+1,0,none⟩)]] 67));have q:∀i,i<a.heap.size->L.heap[i]?=a.heap[i]? :=fun i D=>by rw[<-m.o,ol (by simp only[tY];omega),ol (by simp only[tY];omega),ol (by simp only[tY];omega),ol D]
 have ak:L.heap[a.heap.size]?=some (.cells (u8s Z).toArray 5):=by rw[<-m.o,ol (by simp only[tY];omega),ol (by simp only[tY];omega),ol (by simp only[tY];omega),jA rfl]
 have ax:L.heap[a.heap.size+1]?=some (.cells #[(a.heap.size,0,M,M)] 23):=by rw[<-m.o,ol (by simp only[tY];omega),ol (by simp only[tY];omega),jA (by simp only[tY])]
 have ah:L.heap[a.heap.size+1+1]?=some (.cells #[()] 3):=by rw[<-m.o,ol (by simp only[tY];omega),jA (by simp only[tY])]
 have au:L.heap[a.heap.size+1+1+1]?=some (.cells #[.func (.func 205) #[] #[(w.heap.size,()),.pointer (some ⟨a.heap.size+1+1+1,0,none⟩),.pointer (some ⟨a.heap.size+1,0,none⟩),.pointer (some ⟨a.heap.size+1+1,0,none⟩)]] 67):=by rw[<-m.o,jA (by simp only[tY])]
 have ar:Below w w L:=by rw[<-m.o];have s1:=H.o.size;exact (((H.o.alloc s1 _).alloc (by simp only[tY];omega) _).alloc (by simp only[tY];omega) _).alloc (by simp only[tY];omega) _
 have af:T.length=N:=by rw[G.o.length_eq,<-F.o]
 have B:a.ownsRow 0 188 2 (u,N,y) N (ents T):=by have h:=aE.o;rw[<-F.o]at h;exact⟨h.1,h.2.elim zt (fun ⟨g,X,P,I,_,r⟩=>zu ⟨g,X,P,I,ye _,r⟩)⟩
 have O:oQ w (a.heap.size+1+1+1) (a.heap.size+1) (a.heap.size+1+1) a u N y M M T Z 0 L:=by
  refine⟨?_,af,oT B fun b C=>?_,au,?_,?_,?_,?_,zL,HM.o.symm⟩
  .rw[q _ aj];exact aB.o
  .have aD:b<a.heap.size:=by
    obtain⟨_,⟨I,_⟩|⟨g,X,P,I,_,hh,_⟩⟩:=B
    .rw[I]at C;simp[Value.ownBlock]at C
    .rw[I]at C;have:g=b:=(by simpa[Value.ownBlock]using C);rw[<-this];exact xL hh
   rw[q _ aD]
  .exact ax
  .exact ak
  .exact ah
  .rw[ab.o,zR]
 have av:Hid (∀x∈T,x.1.size<=14/\0<=x.2/\x.2<=255):=fun x hx=>by have h1:=jo (HZ.o.2.1 x (G.o.mem_iff.1 hx));exact⟨(VG h1.1).1,by omega,by omega⟩
 have j:=Rf w (a.heap.size+1+1+1) (a.heap.size+1) (a.heap.size+1+1) a u N y M M T av.o hl N 0 0 Z L (by omega) (by rw[(fN hl).2.1];omega) O (by omega);rw[show ((0:Nat):Int)=0 from rfl]at j;have Y:=Lib.hid j;have al:=Lib.hid ar;clear j ar O B au ah ax ak q;go_wp2_with fail
 rw[m.o];refine Y.o.mono ?_;rintro e w7 ⟨rfl,hL,hk⟩;have a7:w7.cell? (a.heap.size+1,0)=some (.slice (some ⟨a.heap.size,0,none⟩) M M):=zC hL.o;have hD:layF Z ((ino N 0).zip (T.drop 0))=layD l:=by have hT:T=oY l:=YM G.o (XI aF.o (((G.o.map (·.1)).nodup_iff).2 HZ.o.2.2));unfold layD layS;rw[<-hT,af,wz,ab.o,HM.o]
 have az:Below w w w7:=al.o.trans (hk.to_below (fun i D=>by have:=H.o.size;rcases D with rfl|rfl<;>omega) al.o.size);have ai:Hid (jv l w (.returned (.tuple #[(a.heap.size,0,M,M),()])) w7):=by
  refine⟨_,rfl,⟨?_,fun p n c he=>?_⟩,fun b C=>?_,az⟩
  .have h1:=hL.b;rw[hD]at h1;have h2:=hL.d;rw[hD]at h2;exact Hg h1 h2
  .injection he with _ e2 e3;omega
  .injection C with C;have aW:a.heap.size=b:=C;have:=H.o.size;omega
 clear hL hk hD az;go_wp2
 go_returns
 exact ai.o
theorem lay_ok (v:Value) (l:List En) (w:World) (h:gO w v l) (b:tW l=0):
 Calls prog 158 #[v] w (LayOk l w):=
 (iI v l w h b).mono fun _ _ a=>a.ok
