/- Part of the proofs of FsLinks: the texts DkOps3, DkOps4, DkOps5, DkHelp, DkSpun, FsMark. -/
import Derived.Test.YtpoglnpjadmbpaaGreatDoorKA13
set_option maxHeartbeats 16000000
set_option maxRecDepth 100000
namespace Go.Proofs.YtpoglnpjadmbpaaGreatDoor
open Go.RowKit
section
variable {w : World} {gd gs gn : Nat} {wt : Value} {E : List (Nat × Value)} {st : Dk} {L k : Nat} {F : Nat -> Prop}
theorem Lies.setS (h:Lies w gd gs gn wt E st L k F) (S':List Int) (hl:S'.length=L):Lies (w.setRow gs (u8s S').toArray) gd gs gn wt E { st with S:=S' } L k F:=by
 obtain⟨n1,n2,n3,n4,n5⟩:=h.ne_d
 have other:∀ i,i ≠ gs->(w.setRow gs (u8s S').toArray).heap[i]? = w.heap[i]? :=fun i hi=>setRow_other w gs i _ hi
 exact { h with
  hd:=(other _ n1).trans h.hd
  hs:=setRow_heap w gs _ _ _ _ h.hs
  hn:=(other _ (Ne.symm h.ne)).trans h.hn
  ls:=hl
  own:=qci h.own fun b hb=>other b (fun e=>n4 (by rw[hb,e]))
  ent:=fun i n v hi=>by
   obtain⟨h1,D,h2,h3⟩:=h.ent i n v hi
   exact⟨h1,D,h2,h3.keep (fun i c _ hs _ _=>other i hs) fun _ hi=>hi⟩
  fin:=fun i hi=>by simpa using h.fin i hi }
theorem Lies.setN (h:Lies w gd gs gn wt E st L k F) (N':List Int) (hl:N'.length=L):Lies (w.setRow gn (u8s N').toArray) gd gs gn wt E { st with N:=N' } L k F:=by
 obtain⟨n1,n2,n3,n4,n5⟩:=h.ne_d
 have other:∀ i,i ≠ gn->(w.setRow gn (u8s N').toArray).heap[i]? = w.heap[i]? :=fun i hi=>setRow_other w gn i _ hi
 exact { h with
  hd:=(other _ n2).trans h.hd
  hn:=setRow_heap w gn _ _ _ _ h.hn
  hs:=(other _ h.ne).trans h.hs
  ln:=hl
  own:=qci h.own fun b hb=>other b (fun e=>n5 (by rw[hb,e]))
  ent:=fun i n v hi=>by
   obtain⟨h1,D,h2,h3⟩:=h.ent i n v hi
   exact⟨h1,D,h2,h3.keep (fun i c _ _ hn _=>other i hn) fun _ hi=>hi⟩
  fin:=fun i hi=>by simpa using h.fin i hi }
theorem Lies.clearW (h:Lies w gd gs gn wt E st L k F):Lies (w.setCell ⟨gd,2,none⟩ (.slice none 0 0)) gd gs gn (.slice none 0 0) [] { st with W:=[] } L k F:=by
 obtain⟨n1,n2,n3,n4,n5⟩:=h.ne_d
 have other:∀ i,i ≠ gd->(w.setCell ⟨gd,2,none⟩ (.slice none 0 0)).heap[i]? = w.heap[i]? :=fun i hi=>Below.heap_setCell w _ _ i hi
 exact { h with
  hd:=by have:=qbu (i:=2) h.hd (.slice none 0 0);simpa using this
  hs:=(other _ (Ne.symm n1)).trans h.hs
  hn:=(other _ (Ne.symm n2)).trans h.hn
  own:=World.ownsRow_nil _ _ _ _
  fw:=fun b hb=>by simp[Value.ownBlock]at hb
  len:=rfl
  small:=by simp
  ent:=fun i n v hi=>by simp at hi
  fin:=fun i hi=>by simpa[World.setCell]using h.fin i hi }
theorem ybfp {a b:List Int} (h:a.length=b.length):over a 0 b=b:=by
 unfold over
 rw[List.take_zero,List.nil_append,Nat.zero_add,List.drop_of_length_le (by omega),List.append_nil]
theorem Lies.bytesS (h:Lies w gd gs gn wt E st L k F):qaf w (.slice (some ⟨gs,0,none⟩) L L) st.S:=qav h.ls h.hs (by rw[List.take_of_length_le (by have:=h.ls;simp[qal];omega)])
theorem Lies.bytesN (h:Lies w gd gs gn wt E st L k F):qaf w (.slice (some ⟨gn,0,none⟩) L L) st.N:=qav h.ln h.hn (by rw[List.take_of_length_le (by have:=h.ln;simp[qal];omega)])
theorem Lies.drew (h:Lies w gd gs gn wt E st L k F):Lies w.drew gd gs gn wt E st L k F:=h.keep (fun _ _=>rfl) (Nat.le_refl _)
def qfu (st:Dk):Dk:=if st.fu=0 then st else { S:=st.N,N:=st.N,W:=[],fu:=decF st.fu }
theorem ybho (h:Lies w gd gs gn wt E st L k F):Calls Tryz.prog 78 #[.pointer (some ⟨gd,0,none⟩)] w fun e w'=>e=.returned (.tuple #[])/\Did (.pointer (some ⟨gd,0,none⟩)) (qfu st) k F w w':=by
 have H:=Lib.hid h
 by_cases hf:st.fu=0
 ·clear h
  have HF:=Lib.hid hf
  clear hf
  go_enter Tryz.func78,Tryz.ntmps78
  go_wp2_with fail
  refine (qym H.out HF.out).mono ?_
  rintro e w' ⟨rfl,rfl⟩
  go_wp2
  go_end0
  refine⟨rfl,F,⟨gd,gs,gn,wt,E,L,rfl,?_⟩,fun _ hi=>Or.inl hi,qab.refl _ _⟩
  unfold qfu
  rw[if_pos HF.out]
  exact H.out
 ·clear h
  have HF:=Lib.hid hf
  clear hf
  go_enter Tryz.func78,Tryz.ntmps78
  go_wp2_with fail
  refine (qyn H.out HF.out).mono ?_
  rintro e w1 ⟨rfl,h1,hk1⟩
  have H1:=Lib.hid h1
  have c0:=h1.c0
  have c1:=h1.c1
  have HL:Hid (st.S.length=L/\st.N.length=L/\L=64*k/\16<=k):=⟨h1.ls,h1.ln,h1.hL,h1.k0⟩
  clear h1
  go_wp2
  go_still_tail 8,(by kernel_rfl)
  go_wp2_with fail
  rw[qfp _ 38 38 _ 5 u8sT qlb gs 0 L L _ st.S st.N 5 H1.out.drew.hs H1.out.drew.bytesN (by have:=HL.out;omega) (by have:=HL.out;omega) (by have:=HL.out;omega)]
  have e:over st.S 0 st.N=st.N:=ybfp (by have:=HL.out;omega)
  rw[e]
  have h2:=H1.out.drew.setS st.N HL.out.2.1
  have H2:=Lib.hid h2
  have z2:=h2.z 2
  have c2:=h2.c2
  clear h2 e
  go_wp2
  go_end0
  have h3:=H2.out.clearW
  refine⟨rfl,F,⟨gd,gs,gn,.slice none 0 0,[],L,rfl,?_⟩,fun _ hi=>Or.inl hi,?_⟩
  ·unfold qfu
   rw[if_neg HF.out]
   exact h3
  ·exact (hk1.drew.step (qab.setRow H1.out.fs _)).step (qab.setCell H1.out.fd _)
def qbr (k:Nat):Dk:={ S:=List.replicate (64*k) 0,N:=List.replicate (64*k) 0,W:=[],fu:= -1 }
def NewRes (k:Nat) (w:World) (e:Ending) (w':World):Prop:=
 ∃ d F,e=.returned (.tuple #[d,.int .i64 0])/\qaw w' d (qbr k) k F/\(∀ i,F i->w.heap.size<=i)/\Below w.heap.size w w'/\d ≠ .pointer none
theorem qtw (w:World) (o:Obj):(w.alloc o).heap.size=w.heap.size+1:=by simp
theorem ybsh (w:World) (gs gn:Nat) (hc:gs=w.heap.size/\gn=w.heap.size+1\/gs=w.heap.size+1/\gn=w.heap.size) (L k:Nat) (Z:List Int) (hL:L=64*k) (hZ:Z=List.replicate L 0) (h0:16<=k) (h1:k<=256):
  qaw (((w.alloc (.cells (u8s Z).toArray 5)).alloc (.cells (u8s Z).toArray 5)).alloc (.cells #[.slice (some ⟨gs,0,none⟩) L L,.slice (some ⟨gn,0,none⟩) L L,.slice none 0 0,.int .i64 (-1)] 128)).drew
   (.pointer (some ⟨w.heap.size+1+1,0,none⟩)) (qbr k) k (fun i=>w.heap.size<=i/\i<w.heap.size+3):=by
 have b0:(((w.alloc (.cells (u8s Z).toArray 5)).alloc (.cells (u8s Z).toArray 5)).alloc (.cells #[.slice (some ⟨gs,0,none⟩) L L,.slice (some ⟨gn,0,none⟩) L L,.slice none 0 0,.int .i64 (-1)] 128)).drew.heap[w.heap.size]? = some (.cells (u8s Z).toArray 5 (0,0)):=
  qad (qad (heap_alloc_new w _) _) _
 have b1:(((w.alloc (.cells (u8s Z).toArray 5)).alloc (.cells (u8s Z).toArray 5)).alloc (.cells #[.slice (some ⟨gs,0,none⟩) L L,.slice (some ⟨gn,0,none⟩) L L,.slice none 0 0,.int .i64 (-1)] 128)).drew.heap[w.heap.size+1]? = some (.cells (u8s Z).toArray 5 (0,0)):=by
  have:=heap_alloc_new (w.alloc (.cells (u8s Z).toArray 5)) (.cells (u8s Z).toArray 5)
  simp only[qtw]at this
  exact qad this _
 have b2:(((w.alloc (.cells (u8s Z).toArray 5)).alloc (.cells (u8s Z).toArray 5)).alloc (.cells #[.slice (some ⟨gs,0,none⟩) L L,.slice (some ⟨gn,0,none⟩) L L,.slice none 0 0,.int .i64 (-1)] 128)).drew.heap[w.heap.size+1+1]? = some (.cells #[.slice (some ⟨gs,0,none⟩) L L,.slice (some ⟨gn,0,none⟩) L L,.slice none 0 0,.int .i64 (-1)] 128 (0,0)):=by
  have:=heap_alloc_new ((w.alloc (.cells (u8s Z).toArray 5)).alloc (.cells (u8s Z).toArray 5)) (.cells #[.slice (some ⟨gs,0,none⟩) L L,.slice (some ⟨gn,0,none⟩) L L,.slice none 0 0,.int .i64 (-1)] 128)
  simp only[qtw]at this
  exact this
 have hz:((((w.alloc (.cells (u8s Z).toArray 5)).alloc (.cells (u8s Z).toArray 5)).alloc (.cells #[.slice (some ⟨gs,0,none⟩) L L,.slice (some ⟨gn,0,none⟩) L L,.slice none 0 0,.int .i64 (-1)] 128)).drew).heap.size=w.heap.size+3:=by simp
 have hZ':Z=List.replicate (64*k) 0:=by rw[hZ,hL]
 refine⟨_,gs,gn,_,[],L,rfl,⟨by omega,by omega,by omega,by omega,b2,?_,?_,by simp[qbr];omega,by simp[qbr];omega,hL,h0,h1,World.ownsRow_nil _ _ _ _,fun b hb=>by simp[Value.ownBlock]at hb,rfl,by simp,fun i n v hi=>by simp at hi,fun i hi=>by rw[hz];omega,by simp[qbr],by simp[qbr]⟩⟩
 ·have e:(qbr k).S=Z:=hZ'.symm
  rw[e]
  rcases hc with⟨rfl,_⟩ | ⟨rfl,_⟩
  ·exact b0
  ·exact b1
 ·have e:(qbr k).N=Z:=hZ'.symm
  rw[e]
  rcases hc with⟨_,rfl⟩ | ⟨_,rfl⟩
  ·exact b1
  ·exact b0
theorem ybyq (k:Nat) (x:Int) (hx:x=k) (h0:16<=k) (h1:k<=256) (w:World):Calls Tryz.prog 28 #[.int .i64 x] w (NewRes k w):=by
 obtain⟨L,HL⟩:∃ L,Hid (L=64*k):=⟨_,rfl⟩
 obtain⟨Z,HZ⟩:∃ Z,Hid (Z=List.replicate L (0:Int)):=⟨_,rfl⟩
 have hmk:∀ W:World,(Instr.makeSlice 38 (.int .i64 (x*64)) (.int .i64 (x*64))).run Tryz.prog W=.ok (.slice (some ⟨W.heap.size,0,none⟩) L L) (W.alloc (.cells (u8s Z).toArray 5)):=fun W=>by
  rw[HZ.out];exact qht L (x*64) (by rw[HL.out];omega) (by rw[HL.out];omega) W
 have hx0:16<=x:=by omega
 have hx1:x<=256:=by omega
 clear hx
 go_enter Tryz.func28,Tryz.ntmps28
 go_wp2
 go_region
 all_goals
  go_wp2
  go_ret2
  refine⟨_,_,rfl,ybsh w _ _ (by omega) L k Z HL.out HZ.out h0 h1,fun i hi=>hi.1,?_,by simp⟩
  exact ((((Below.refl _ _).alloc (Nat.le_refl _) _).alloc (by simp) _).alloc (by simp;omega) _).drew
end
theorem ybqa : (Tryz.prog.info? 130).map (fun i=>(i.zero,i.size,i.bytes))=some (some (.agg #[.int .i64 0,.slice none 0 0]),2,32):=by kernel_rfl
theorem ycaf : Tryz.prog.underlying 126=some (.slice 130):=by kernel_rfl
def qcb (st:Dk) (n:Nat) (D:List Int):Dk:=if st.fu=0 then st else { S:=st.S,N:=putS st.N n D,W:=st.W++[(n,D)],fu:=decF st.fu }
def New64 (D:List Int) (w:World) (v:Value) (w':World):Prop:=
 ∃ g cap cur,v=.slice (some ⟨g,0,none⟩) 64 cap/\w.heap.size<=g/\w'.heap[g]? = some (.cells cur 5 (0,0))/\cur.toList.take 64=u8s D/\Below w.heap.size w w'
theorem ybld (v:Value) (D:List Int) (w:World) (h:qaf w v D) (hD:D.length=64):Calls Tryz.prog 98 #[v] w fun e w'=>∃ v',e=.returned v'/\New64 D w v' w':=
 (qgr v D w h (by omega) (by omega)).mono fun e w' ⟨v',he,g,cap,cur,hv,h1,h2,h3,h4⟩=>⟨v',he,g,cap,cur,by rw[hv,hD],h1.1,h2,by rw[<-hD];exact h3,h4⟩
theorem qrp (w:World) (o:Obj) (p:Addr) (h:p.block<w.heap.size):(w.alloc o).frozen? p=w.frozen? p:=World.frozen?_of_block (Below.heap_alloc w o p.block h)
section
variable {w w' : World} {gd gs gn : Nat} {wt : Value} {E : List (Nat × Value)} {st : Dk} {L k : Nat} {F : Nat -> Prop}
theorem Lies.wrote (h:Lies w gd gs gn wt E st L k F) (n:Nat) (hn:n<k) (D:List Int) (hD:D.length=64) (hs:E.length<1000000) (wt':Value) (g' cap:Nat) (cur:Array Value) (hz:w.heap.size<=w'.heap.size)
  (hk:∀ i,i<w.heap.size->i ≠ gd->i ≠ gn->wt.ownBlock ≠ some i->w'.heap[i]? = w.heap[i]?)
  (hd':w'.heap[gd]? = some (.cells #[.slice (some ⟨gs,0,none⟩) L L,.slice (some ⟨gn,0,none⟩) L L,wt',.int .i64 st.fu] 128 (0,0)))
  (hn':w'.heap[gn]? = some (.cells (u8s (putS st.N n D)).toArray 5 (0,0)))
  (own':w'.ownsRow 0 130 2 wt' (E.length+1) (qhk E++[.int .i64 (n:Int),.slice (some ⟨g',0,none⟩) 64 cap]))
  (hb:wt'.ownBlock=wt.ownBlock\/∀ g,wt'.ownBlock=some g->w.heap.size<=g)
  (hg':w.heap.size<=g') (hcur:w'.heap[g']? = some (.cells cur 5 (0,0))) (hc:cur.toList.take 64=u8s D):
  Lies w' gd gs gn wt' (E++[(n,.slice (some ⟨g',0,none⟩) 64 cap)]) { st with N:=putS st.N n D,W:=st.W++[(n,D)] } L k (fun i=>F i\/(w.heap.size<=i/\i<w'.heap.size)):=by
 obtain⟨n1,n2,n3,n4,n5⟩:=h.ne_d
 have ls:=h.fin _ h.fs
 have ln:=h.fin _ h.fn
 have hg2:g'<w'.heap.size:=qac hcur
 have hlN:st.N.length=64*k:=by rw[h.ln,h.hL]
 exact { h with
  fd:=Or.inl h.fd
  fs:=Or.inl h.fs
  fn:=Or.inl h.fn
  hd:=hd'
  hs:=(hk _ ls (Ne.symm n1) h.ne n4).trans h.hs
  hn:=hn'
  ln:=by rw[qgk hlN hn hD,h.hL]
  own:=by
   rw[qmf,List.length_append]
   exact own'
  fw:=fun b hb'=>by
   rcases hb with e | e
   ·exact Or.inl (h.fw b (by rw[<-e];exact hb'))
   ·have:=(own'.lt b hb').2
    exact Or.inr ⟨e b hb',this⟩
  len:=by rw[List.length_append,List.length_append,h.len];rfl
  small:=by rw[List.length_append];simp only[List.length_cons,List.length_nil];omega
  ent:=fun i m v hi=>by
   by_cases hlt:i<E.length
   ·rw[List.getElem?_append_left hlt]at hi
    obtain⟨h1,D1,h2,h3⟩:=h.ent i m v hi
    refine⟨h1,D1,?_,h3.keep (fun i c hi hs hn hc=>hk i (h.fin i hi) (qam hc h.hd (by decide)) hn ?_) fun i hi=>Or.inl hi⟩
    ·rw[List.getElem?_append_left (by rw[<-h.len];exact hlt)];exact h2
    ·exact qds h.own hc (by decide)
   ·have hi':=(List.getElem?_eq_some_iff.1 hi).1
    rw[List.length_append]at hi'
    simp only[List.length_cons,List.length_nil]at hi'
    have e:i=E.length:=by omega
    subst e
    rw[List.getElem?_append_right (Nat.le_refl _),Nat.sub_self]at hi
    simp only[List.getElem?_cons_zero,Option.some.injEq,Prod.mk.injEq]at hi
    obtain⟨rfl,rfl⟩:=hi
    refine⟨hn,D,?_,g',cap,cur,rfl,hD,Or.inr ⟨hg',hg2⟩,by omega,by omega,hcur,hc⟩
    rw[h.len,List.getElem?_append_right (Nat.le_refl _),Nat.sub_self];rfl
  fin:=fun i hi=>by
   rcases hi with hi | hi
   ·exact Nat.lt_of_lt_of_le (h.fin i hi) hz
   ·exact hi.2 }
theorem Lies.mid {w2 w4:World} (h:Lies w gd gs gn wt E st L k F) (hb2:Below w.heap.size w w2) {o:Obj} (hg:(w2.alloc o).grownBy w4 wt.ownBlock) (u:Value):
  (∀ i,i<w.heap.size->i ≠ gd->wt.ownBlock ≠ some i->(w4.setCell ⟨gd,2,none⟩ u).heap[i]? = w.heap[i]?) /\
  (w4.setCell ⟨gd,2,none⟩ u).heap[gd]? = some (.cells #[.slice (some ⟨gs,0,none⟩) L L,.slice (some ⟨gn,0,none⟩) L L,u,.int .i64 st.fu] 128 (0,0)) /\
  w.heap.size<=(w4.setCell ⟨gd,2,none⟩ u).heap.size/\qab F w (w4.setCell ⟨gd,2,none⟩ u):=by
 obtain⟨n1,n2,n3,n4,n5⟩:=h.ne_d
 have s1:(w2.alloc o).heap.size=w2.heap.size+1:=by simp
 have s2:=hb2.size
 have s4:=hg.size
 have a:∀ i,i<w.heap.size->wt.ownBlock ≠ some i->w4.heap[i]? = w.heap[i]? :=fun i hi hne=>
  (hg.block i (by omega) (Ne.symm hne)).trans ((Below.heap_alloc w2 o i (by omega)).trans (hb2.block i hi))
 have ld:=h.fin _ h.fd
 refine⟨fun i hi hd hne=>(Below.heap_setCell w4 _ _ i hd).trans (a i hi hne),?_,by simp[World.setCell];omega,?_⟩
 ·have:=qbu (i:=2) ((a gd ld n3).trans h.hd) u
  simpa using this
 ·refine ((qab.of_below hb2).step ((qab.alloc o).step (qab.grown hg fun r hr=>h.fw r hr))).step (qab.setCell h.fd _)
theorem ybjx (h : Lies w gd gs gn wt E st L k F) (n : Nat) (hn : n < k) (v : Value) (D : List Int) (hD : D.length = 64) (hb : ∀ w', qab F w w' → qaf w' v D) (hs : E.length < 1000000) :
    Calls Tryz.prog 74 #[.pointer (some ⟨gd, 0, none⟩), .int .i64 (n : Int), v] w fun e w' => e = .returned (.int .i64 0) ∧ Did (.pointer (some ⟨gd, 0, none⟩)) (qcb st n D) k F w w' := by
  have H := Lib.hid h
  have HB := Lib.hid hb
  obtain ⟨p, cp, hu⟩ : ∃ p cp, v = .slice p 64 cp := by
    have := hb w (qab.refl _ _)
    obtain ⟨_, ⟨h0, _⟩ | ⟨g, o, cap, rfl, _⟩⟩ := this
    · omega
    · exact ⟨_, cap, by rw [hD]⟩
  subst hu
  have HD := Lib.hid hD
  have h4 := h.k1
  have hL : 64 * k ≤ L := by have := h.hL; omega
  have hL1 : L ≤ 64 * k := by have := h.hL; omega
  have hn1 : ¬ (k : Int) ≤ (n : Int) := by omega
  have hn2 : (0 : Int) ≤ (n : Int) := by omega
  have hn3 : (n : Int) * 64 ≤ (L : Int) := by omega
  have hcap : ¬ L = n * 64 := by omega
  clear hb hD
  by_cases hf : st.fu = 0
  · clear h
    have HF := Lib.hid hf
    clear hf
    go_enter Tryz.func74, Tryz.ntmps74
    go_wp2_with fail
    refine (qnq H.out).mono ?_
    rintro e w' ⟨rfl, rfl⟩
    go_wp2_with fail
    refine (qym H.out HF.out).mono ?_
    rintro e w' ⟨rfl, rfl⟩
    go_wp2
    go_ret
    refine ⟨rfl, F, ⟨gd, gs, gn, wt, E, L, rfl, ?_⟩, fun _ hi => Or.inl hi, qab.refl _ _⟩
    unfold qcb
    rw [if_pos HF.out]
    exact H.out
  · clear h
    have HF := Lib.hid hf
    clear hf
    obtain ⟨i0, hi0, hz0, hz1, hz2⟩ := info_parts ybqa
    have HI := Lib.hid hi0
    have HZ0 := Lib.hid hz0
    have HZ1 := Lib.hid hz1
    have HZ2 := Lib.hid hz2
    clear hi0 hz0 hz1 hz2
    go_enter Tryz.func74, Tryz.ntmps74
    go_wp2_with fail
    refine (qnq H.out).mono ?_
    rintro e w' ⟨rfl, rfl⟩
    go_wp2_with fail
    refine (qyn H.out HF.out).mono ?_
    rintro e w1 ⟨rfl, h1, hk1⟩
    have H1 := Lib.hid h1
    have c2 := h1.c2
    have z2 := h1.z 2
    have hgl : gd < w1.heap.size := h1.fin _ h1.fd
    have NE := Lib.hid h1.ne_d
    clear h1
    go_wp2
    go_region_law (first
        | (refine ybpi ?_ 98 #[.tmp 28] #[38] ?_ (fun _ _ => by kernel_rfl) #[.slice p 64 cp] ?_ (New64 D w1.drew) (ybld _ D w1.drew (HB.out w1.drew hk1.drew) HD.out) ?_; (rfl); (rfl); (kernel_rfl); rintro v2 w2 ⟨g2, cap2, cur2, rfl, hg2, hh2, ht2, hb2⟩; have k2 : w2.cell? ⟨gd, 2, none⟩ = some wt := (hb2.cell (p := ⟨gd, 2, none⟩) hgl).trans c2; have f2 : w2.frozen? ⟨gd, 2, none⟩ = false := (hb2.frozen (p := ⟨gd, 2, none⟩) hgl).trans z2; have kz : gd < w2.heap.size := Nat.lt_of_lt_of_le hgl hb2.size; have kn : ¬ gd = w2.heap.size := Nat.ne_of_lt kz; have HO2 : Hid (w2.ownsRow 0 130 2 wt E.length (qhk E)) := qap H1.out.drew.own hb2; have HH2 := Lib.hid hh2; have HT2 := Lib.hid ht2; have HB2 := Lib.hid hb2; clear hh2 ht2 hb2)
        | (refine step_append_lies _ (by rfl) _ _ _ (by rfl) 0 130 i0 _ 2 32 ycaf HI.out HZ0.out HZ1.out HZ2.out rfl (by omega) wt E.length (qhk E) (by rfl) (HO2.out.alloc _)
            ⟨w2.heap.size, 0, none⟩ 1 1 [.int .i64 (n : Int), .slice (some ⟨g2, 0, none⟩) 64 cap2] (by rfl) (by rfl) (World.news_of_block (cs := #[.int .i64 (n : Int), .slice (some ⟨g2, 0, none⟩) 64 cap2]) (t := 130) (fr := (0, 0)) (heap_alloc_new w2 _)) (by simp [Value.oneCell'])
            (by omega) (by unfold maxLen; omega) (by omega) (by simp) (w2.heap.size + 1) (by simp) ?_; intro gg cap4 w4 hown4 hgrow hat hlt
           have k4 : w4.cell? ⟨gd, 2, none⟩ = some wt := by rw [hgrow.cell_far _ (by simp; omega) (Ne.symm NE.out.2.2.1), World.cell?_alloc_lt _ _ _ kz]; exact k2
           have f4 : w4.frozen? ⟨gd, 2, none⟩ = false := by rw [hgrow.frozen_far _ (by simp; omega) (Ne.symm NE.out.2.2.1), qrp _ _ _ kz]; exact f2
           have HO4 := Lib.hid hown4
           have HG4 := Lib.hid hgrow
           have HA4 := Lib.hid hat
           clear hown4 hgrow hat))
    all_goals
      obtain ⟨m1, m2, m3, m4⟩ := H1.out.drew.mid HB2.out HG4.out (.slice (some ⟨gg, 0, none⟩) (E.length + 1) cap4)
      have M1 := Lib.hid m1
      have M2 := Lib.hid m2
      have M4 := Lib.hid m4
      have ha4 := HA4.out
      have hkk : qab F w (w4.setCell ⟨gd, 2, none⟩ (.slice (some ⟨gg, 0, none⟩) (E.length + 1) cap4)) := hk1.drew.step m4
      have ne2 : wt.ownBlock ≠ some g2 := qds HO2.out HH2.out (by decide)
      have hgd2 : g2 ≠ gd := by have : w1.heap.size ≤ g2 := hg2; omega
      have hfin2 : (w4.setCell ⟨gd, 2, none⟩ (.slice (some ⟨gg, 0, none⟩) (E.length + 1) cap4)).heap[g2]? = some (.cells cur2 5 (0, 0)) :=
        (Below.heap_setCell w4 _ _ g2 hgd2).trans ((HG4.out.block g2 (by have := qac HH2.out; simp; omega) (Ne.symm ne2)).trans (qad HH2.out _))
      have hgw : (Value.slice (some ⟨gg, 0, none⟩) (E.length + 1) cap4).ownBlock ≠ some gd := by
        rcases ha4 with e | e
        · intro e2
          have e3 : gg = gd := by simpa [Value.ownBlock] using e2
          exact NE.out.2.2.1 (by rw [e, e3])
        · intro e2
          have e3 : gg = gd := by simpa [Value.ownBlock] using e2
          omega
      have own5 : (w4.setCell ⟨gd, 2, none⟩ (.slice (some ⟨gg, 0, none⟩) (E.length + 1) cap4)).ownsRow 0 130 2 (.slice (some ⟨gg, 0, none⟩) (E.length + 1) cap4) (E.length + 1) (qhk E ++ [.int .i64 (n : Int), .slice (some ⟨g2, 0, none⟩) 64 cap2]) :=
        qci HO4.out fun b hb => Below.heap_setCell w4 _ _ b (fun e => hgw (by rw [hb, e]))
      have hbk : (Value.slice (some ⟨gg, 0, none⟩) (E.length + 1) cap4).ownBlock = wt.ownBlock ∨ ∀ g, (Value.slice (some ⟨gg, 0, none⟩) (E.length + 1) cap4).ownBlock = some g → w1.drew.heap.size ≤ g := by
        rcases ha4 with e | e
        · exact Or.inl e.symm
        · refine Or.inr fun g hg => ?_
          have e3 : gg = g := by simpa [Value.ownBlock] using hg
          have := HB2.out.size
          omega
      have ln1 : gn < w1.drew.heap.size := H1.out.drew.fin _ H1.out.fn
      have hn5 := (m1 gn ln1 (Ne.symm NE.out.2.1) NE.out.2.2.2.2).trans H1.out.drew.hn
      generalize hw5 : w4.setCell ⟨gd, 2, none⟩ (.slice (some ⟨gg, 0, none⟩) (E.length + 1) cap4) = w5 at *
      have HKK := Lib.hid hkk
      have HFIN := Lib.hid hfin2
      have HOWN := Lib.hid own5
      have HBK := Lib.hid hbk
      have HN5 := Lib.hid hn5
      have c1 : w5.cell? ⟨gd, 1, none⟩ = some (.slice (some ⟨gn, 0, none⟩) L L) := cell_of_row _ _ _ _ _ _ m2
      clear m1 m2 m4 hkk hfin2 own5 hbk hn5 hw5 ha4 k4 f4 HO4 HG4 HA4 hlt ne2 hgw
      go_wp2_with fail
      rw [qfp w5 38 38 _ 5 u8sT qlb gn (n * 64) (L - n * 64) (L - n * 64) _ st.N D 5 HN5.out (HB.out w5 HKK.out) (by rw [HD.out]; omega) (by rw [HD.out]; omega) (by rw [HD.out, H1.out.ln]; omega)]
      go_wp2
      go_ret
      have e : over st.N (n * 64) D = putS st.N n D := by unfold over putS; rw [HD.out, Nat.mul_comm n 64]
      rw [e]
      have hL5 := H1.out.drew.wrote (w' := w5.setRow gn (u8s (putS st.N n D)).toArray) n hn D HD.out hs _ g2 cap2 cur2 (by rw [setRow_size]; exact m3)
        (fun i hi hd hn hne => (setRow_other w5 gn i _ hn).trans (M1.out i hi hd hne)) ((setRow_other w5 gn gd _ NE.out.2.1).trans M2.out) (setRow_heap w5 gn _ _ _ _ HN5.out)
        (qci HOWN.out fun b hb => setRow_other w5 gn b _ (fun e => qds HOWN.out HN5.out (by decide) (by rw [hb, e]))) HBK.out hg2 ((setRow_other w5 gn g2 _ (by omega)).trans HFIN.out) HT2.out
      have hW : qcb st n D = { S := st.S, N := putS st.N n D, W := st.W ++ [(n, D)], fu := decF st.fu } := by unfold qcb; rw [if_neg HF.out]
      rw [hW]
      refine ⟨rfl, fun i => F i ∨ (w1.drew.heap.size ≤ i ∧ i < (w5.setRow gn (u8s (putS st.N n D)).toArray).heap.size), ⟨gd, gs, gn, _, _, L, rfl, hL5⟩, ?_, HKK.out.step (qab.setRow H1.out.fn _)⟩
      rintro i (hi | hi)
      · exact Or.inl hi
      · exact Or.inr (Nat.le_trans hk1.size hi.1)
end
def ybwy (K:List Bool):List Value:=K.map Value.bool
def ybjz (w:World) (v:Value) (K:List Bool):Prop:=qai w v 1 K.length (ybwy K)
theorem ybks (l:List Bool) (j:Nat) (hj:j<l.length):(ybwy l)[j]? = some (.bool l[j]):=by simp[ybwy,hj]
def qhy (S:List Int):List (Nat × List Int)->List Bool->List Int
 | [],_=>S
 | _ :: _,[]=>S
 | (n,D) :: W,b :: K=>qhy (if b then putS S n D else S) W K
def ybeh (st:Dk) (K:List Bool):Dk:={ S:=qhy st.S st.W K,N:=qhy st.S st.W K,W:=[],fu:= -1 }
theorem qrb (S:List Int) (W:List (Nat × List Int)):qhy S W []=S:=by cases W <;> rfl
section
variable {w w' : World} {gd gs gn : Nat} {wt : Value} {E : List (Nat × Value)} {st : Dk} {L k : Nat} {F : Nat -> Prop}
theorem Lies.alloc (h:Lies w gd gs gn wt E st L k F) (o:Obj):Lies (w.alloc o) gd gs gn wt E st L k F:=
 h.keep (fun i hi=>Below.heap_alloc w o i (h.fin i hi)) (by simp)
theorem ybha (h:Lies w gd gs gn wt E st L k F) (kv:Value) (K:List Bool) (hk:∀ w',qab F w w'->ybjz w' kv K) (hK:K.length<=9223372036854775807):
  Calls Tryz.prog 26 #[.pointer (some ⟨gd,0,none⟩),kv] w fun e w'=>e=.returned (.tuple #[])/\Did (.pointer (some ⟨gd,0,none⟩)) (ybeh st K) k F w w':=by
 have H:=Lib.hid h
 have HK:=Lib.hid hk
 obtain⟨M,HM⟩:∃ M,Hid (M=K.length):=⟨_,rfl⟩
 obtain⟨p,cp,hu⟩:∃ p cp,kv=.slice p M cp:=by
  obtain⟨_,⟨h0,a0,c0,rfl⟩ | ⟨g,o,cap,rfl,_⟩⟩:=hk w (qab.refl _ _)
  ·exact⟨a0,c0,by rw[HM.out,h0]⟩
  ·exact⟨_,cap,by rw[HM.out]⟩
 subst hu
 rw[<-HM.out]at hK
 obtain⟨N,HN⟩:∃ N,Hid (N=E.length):=⟨_,rfl⟩
 obtain⟨q,cq,hv,_⟩:=qat h.own
 rw[<-HN.out]at hv
 subst hv
 have c2:=h.c2
 have hs:=h.small
 rw[<-HN.out]at hs
 have h4:=h.k1
 have hL:64*k<=L:=by have:=h.hL;omega
 have hL1:L<=64*k:=by have:=h.hL;omega
 clear hk h
 go_enter Tryz.func26,Tryz.ntmps26
 go_wp2
 go_loopw [11] (fun i wr=>∃ (j:Nat) (S1:List Int),j<=N/\i=.int .i64 j/\Hid (qhy S1 (st.W.drop j) (K.drop j)=qhy st.S st.W K)/\Hid (Lies wr gd gs gn (.slice q N cq) E { st with S:=S1 } L k F)/\Hid (qab F w wr)) (fun i _=>N - (intOf i).toNat)
 case atStart=>exact⟨0,st.S,Nat.zero_le _,rfl,rfl,H.out,qab.refl _ _⟩
 case round=>
  obtain⟨j,S1,hj,rfl,HC,HL,HKP⟩:=hrel
  by_cases hlt:j<N
  ·have hjl:j<E.length:=by rw[<-HN.out];exact hlt
   obtain⟨q',cq',hv',hcell⟩:=qat HL.out.own
   obtain⟨gw,hq,_,hcell⟩:=hcell (by omega)
   have e0:q=some ⟨gw,0,none⟩:=by rw[<-hq];injection hv'
   subst e0
   have hp:=que E j hjl
   obtain⟨n,hn⟩:∃ n,Hid (n=E[j].1):=⟨E[j].1,rfl⟩
   obtain⟨v,hv⟩:∃ v,Hid (v=E[j].2):=⟨E[j].2,rfl⟩
   rw[<-hn.out,<-hv.out]at hp
   have d1:=hcell _ _ hp.1
   have d2:=hcell _ _ hp.2
   obtain⟨hnk,D,hW,gD,cD,curD,hvD,hDl,hFD,hDs,hDn,hhD,htD⟩:=HL.out.ent j n v (by rw[hn.out,hv.out];simp[hjl])
   subst hvD
   have HDL:=Lib.hid hDl
   have HHD:=Lib.hid hhD
   have HTD:=Lib.hid htD
   have HW:Hid (st.W.drop j=(n,D) :: st.W.drop (j+1)):=by
    have hjw:j<st.W.length:=(List.getElem?_eq_some_iff.1 hW).1
    rw[List.drop_eq_getElem_cons hjw]
    congr 1
    rw[List.getElem?_eq_getElem hjw]at hW
    injection hW
   have c0:=HL.out.c0
   have hgl:gd<wr.heap.size:=HL.out.fin _ HL.out.fd
   have hgn:¬ gd=wr.heap.size:=by omega
   have hgw:gw<wr.heap.size:=block_lt_of_cell d1
   have hgwn:¬ gw=wr.heap.size:=by omega
   have hn3:(n:Int)*64<=(L:Int):=by omega
   have hn2:(0:Int)<=(n:Int):=by omega
   have hcap:¬ L=n*64:=by omega
   have hlt2:(j:Int)<(N:Int):=by omega
   clear hcell hp hq hv' hn hv hW hDl hhD htD
   by_cases hkj:j<M
   ·have hjk:j<K.length:=by rw[<-HM.out];exact hkj
    obtain⟨_,⟨h0,_⟩ | ⟨gk,ok,ck,hkv,hkc⟩⟩:=HK.out wr HKP.out
    ·omega
    have e1:p=some ⟨gk,ok,none⟩:=by injection hkv
    subst e1
    have k1:=hkc _ _ (ybks K j hjk)
    obtain⟨b,hb⟩:∃ b,Hid (b=K[j]):=⟨K[j],rfl⟩
    rw[<-hb.out]at k1
    have HKD:Hid (K.drop j=b :: K.drop (j+1)):=by rw[List.drop_eq_getElem_cons hjk,hb.out];exact rfl
    have hgk:gk<wr.heap.size:=block_lt_of_cell k1
    have hgkn:¬ gk=wr.heap.size:=by omega
    have hkj2:(j:Int)<(M:Int):=by omega
    clear hkc hkv hb
    cases b with
    | true=>
     have HC2:Hid (qhy (putS S1 n D) (st.W.drop (j+1)) (K.drop (j+1))=qhy st.S st.W K):=by
      have:=HC.out
      rw[HW.out,HKD.out]at this
      exact this
     go_wp2
     have hla:=HL.out.alloc (.cells #[.int .i64 (n:Int),.slice (some ⟨gD,0,none⟩) 64 cD] 130)
     have hka:=HKP.out.step (qab.alloc (.cells #[.int .i64 (n:Int),.slice (some ⟨gD,0,none⟩) 64 cD] 130))
     have hda:=qad HHD.out (.cells #[.int .i64 (n:Int),.slice (some ⟨gD,0,none⟩) 64 cD] 130)
     have a1:(wr.alloc (.cells #[.int .i64 (n:Int),.slice (some ⟨gD,0,none⟩) 64 cD] 130)).cell? ⟨wr.heap.size,0,none⟩=some (.int .i64 (n:Int)):=cell_of_row _ _ _ _ _ _ (heap_alloc_new wr _)
     have a2:(wr.alloc (.cells #[.int .i64 (n:Int),.slice (some ⟨gD,0,none⟩) 64 cD] 130)).cell? ⟨wr.heap.size,1,none⟩=some (.slice (some ⟨gD,0,none⟩) 64 cD):=cell_of_row _ _ _ _ _ _ (heap_alloc_new wr _)
     generalize wr.alloc (.cells #[.int .i64 (n:Int),.slice (some ⟨gD,0,none⟩) 64 cD] 130)=wq at *
     have HLA:=Lib.hid hla
     have HKA:=Lib.hid hka
     have HDA:=Lib.hid hda
     have a0:=hla.c0
     clear hla hka hda c0 d1 d2 k1
     have hw1:IntKind.i64.wrap ((n:Int)*64)=(n:Int)*64:=IntWalk.i64_in _ (by omega)
     have hw2:0<=(n:Int)*64:=by omega
     have hw3:((n:Int)*64).toNat=n*64:=by omega
     go_still_tail 10,(by kernel_rfl)
     clear hw1 hw2 hw3
     go_wp2_with fail
     rw[qfp _ 38 38 _ 5 u8sT qlb gs (n*64) (L - n*64) (L - n*64) _ S1 D 5 HLA.out.drew.hs (qav HDL.out HDA.out HTD.out) (by rw[HDL.out];omega) (by rw[HDL.out];omega) (by rw[HDL.out];have:=HL.out.ls;simp only at this;rw[this];omega)]
     have e:over S1 (n*64) D=putS S1 n D:=by unfold over putS;rw[HDL.out,Nat.mul_comm n 64]
     rw[e]
     have hlS:(putS S1 n D).length=L:=by
      have h1:=HL.out.ls
      have h2:=HL.out.hL
      simp only at h1
      rw[qgk (k:=k) (by rw[h1,h2]) hnk HDL.out,h2]
     clear e
     have HLS:=Lib.hid hlS
     clear hlS
     go_wp2
     go_roundw
     case rel=>exact⟨j+1,putS S1 n D,by omega,by go_num,HC2,HLA.out.drew.setS _ HLS.out,HKA.out.drew.step (qab.setRow HL.out.fs _)⟩
     case measure=>simp[intOf];omega
    | false=>
     have HC2:Hid (qhy S1 (st.W.drop (j+1)) (K.drop (j+1))=qhy st.S st.W K):=by
      have:=HC.out
      rw[HW.out,HKD.out]at this
      exact this
     go_wp2
     go_roundw
     case rel=>exact⟨j+1,S1,by omega,by go_num,HC2,HL.out.alloc _,HKP.out.step (qab.alloc _)⟩
     case measure=>simp[intOf];omega
   ·have HC2:Hid (qhy S1 (st.W.drop (j+1)) (K.drop (j+1))=qhy st.S st.W K):=by
     have:=HC.out
     rw[List.drop_of_length_le (l:=K) (by rw[<-HM.out];omega),qrb]at this
     rw[List.drop_of_length_le (l:=K) (by rw[<-HM.out];omega),qrb]
     exact this
    have hkj2:¬ (j:Int)<(M:Int):=by omega
    go_wp2
    go_roundw
    case rel=>exact⟨j+1,S1,by omega,by go_num,HC2,HL.out.alloc _,HKP.out.step (qab.alloc _)⟩
    case measure=>simp[intOf];omega
  ·have HC2:Hid (S1=qhy st.S st.W K):=by
    have:=HC.out
    rw[List.drop_of_length_le (by rw[<-HL.out.len,<-HN.out];omega)]at this
    exact this
   have c0:=HL.out.c0
   have c1:=HL.out.c1
   go_wp2
   go_still_tail 8,(by kernel_rfl)
   go_wp2_with fail
   have hl1:S1.length=L:=HL.out.ls
   have hl2:st.N.length=L:=HL.out.ln
   have h16:=HL.out.k0
   rw[qfp _ 38 38 _ 5 u8sT qlb gn 0 L L _ st.N S1 5 HL.out.drew.hn HL.out.drew.bytesS (by omega) (by omega) (by omega)]
   have e:over st.N 0 S1=S1:=ybfp (by omega)
   rw[e]
   have h2:=HL.out.drew.setN S1 hl1
   have H2:=Lib.hid h2
   have z2:=h2.z 2
   have z3:=h2.z 3
   have d2:=h2.c2
   have d3:=h2.c3
   clear h2 e hl1 hl2
   go_wp2
   go_end0
   have h3:=H2.out.clearW.setFu (-1) (by omega) (by omega)
   refine⟨rfl,F,⟨gd,gs,gn,.slice none 0 0,[],L,rfl,?_⟩,fun _ hi=>Or.inl hi,?_⟩
   ·unfold ybeh
    rw[<-HC2.out]
    exact h3
   ·exact ((HKP.out.drew.step (qab.setRow HL.out.fn _)).step (qab.setCell HL.out.fd _)).step (qab.setCell HL.out.fd _)
end
def puts (l:List (Int × ByteArray)):List Value:=l.flatMap fun x=>[.int .i64 x.1,.string x.2]
theorem ybsb (st:Dk):(qfu st).W.length<=st.W.length:=by unfold qfu;split <;> simp
theorem qqq (st:Dk) (n:Nat) (D:List Int):(qcb st n D).W.length<=st.W.length+1:=by unfold qcb;split <;> simp
section
variable {w w' : World} {d : Value} {st : Dk} {k : Nat} {F : Nat -> Prop}
theorem qhq (h:qaw w d st k F) (n:Nat) (hn:n<k) (v:Value) (D:List Int) (hD:D.length=64) (hb:∀ w',qab F w w'->qaf w' v D) (hs:st.W.length<1000000):
  Calls Tryz.prog 74 #[d,.int .i64 (n:Int),v] w fun e w'=>e=.returned (.int .i64 0)/\Did d (qcb st n D) k F w w':=by
 obtain⟨gd,gs,gn,wt,E,L,rfl,h⟩:=h
 exact ybjx h n hn v D hD hb (by rw[h.len];exact hs)
theorem qwa (h:qaw w d st k F):Calls Tryz.prog 78 #[d] w fun e w'=>e=.returned (.tuple #[])/\Did d (qfu st) k F w w':=by
 obtain⟨gd,gs,gn,wt,E,L,rfl,h⟩:=h
 exact ybho h
theorem ybrh (h:qaw w d st k F) (kv:Value) (K:List Bool) (hk:∀ w',qab F w w'->ybjz w' kv K) (hK:K.length<=9223372036854775807):
  Calls Tryz.prog 26 #[d,kv] w fun e w'=>e=.returned (.tuple #[])/\Did d (ybeh st K) k F w w':=by
 obtain⟨gd,gs,gn,wt,E,L,rfl,h⟩:=h
 exact ybha h kv K hk hK
theorem qfz (h:qaw w d st k F):Calls Tryz.prog 41 #[d] w fun e w'=>e=.returned (.int .i64 (k:Int))/\w=w':=by
 obtain⟨gd,gs,gn,wt,E,L,rfl,h⟩:=h
 exact qnq h
theorem qka (h:qaw w d st k F) (n:Nat) (hn:n<k):Calls Tryz.prog 69 #[d,.int .i64 (n:Int)] w (qqw (sec st.N n) w):=by
 obtain⟨gd,gs,gn,wt,E,L,rfl,h⟩:=h
 exact yboq h n hn
theorem qaw.ptr (h:qaw w d st k F):∃ a,d=.pointer (some a):=by
 obtain⟨gd,gs,gn,wt,E,L,rfl,h⟩:=h
 exact⟨_,rfl⟩
theorem qaw.lens (h:qaw w d st k F):st.S.length=64*k/\st.N.length=64*k:=by
 obtain⟨gd,gs,gn,wt,E,L,rfl,h⟩:=h
 exact⟨by rw[h.ls,h.hL],by rw[h.ln,h.hL]⟩
theorem qes.keep {D:List Int} {v:Value} {w1 w2:World} (h:qes D w1 v w2) (hF:∀ i,F i->i<w1.heap.size):∀ w',qab F w2 w'->qaf w' v D:=fun w' hk=>by
 obtain⟨g,cap,cur,rfl,⟨hg,_⟩,h1,h2,_⟩:=h
 exact qav rfl ((hk.block g (qac h1) (fun hc=>by have:=hF g hc;omega)).trans h1) h2
end
theorem qaw.drew {w:World} {d:Value} {st:Dk} {k:Nat} {F:Nat->Prop} (h:qaw w d st k F):qaw w.drew d st k F:=h.keep (G:=fun _=>False) (qab.refl _ _).drew (fun _ _ h=>h)
theorem Did.keeps {d:Value} {st:Dk} {k:Nat} {F:Nat->Prop} {w w':World} (h:Did d st k F w w'):qab F w w':=by
 obtain⟨_,_,_,h⟩:=h
 exact h
theorem qab.cell {F:Nat->Prop} {w w':World} (h:qab F w w') {g i:Nat} (hg:g<w.heap.size) (hn:¬ F g):w'.cell? ⟨g,i,none⟩=w.cell? ⟨g,i,none⟩:=World.cell?_of_block (h.block g hg hn)
def ybkh (w:World) (d:Value) (st:Dk) (k:Nat) (w':World):Prop:=∃ F,qaw w' d st k F/\(∀ i,F i->w.heap.size<=i)/\Below w.heap.size w w'
theorem ybkh.did {w w1 w2:World} {d:Value} {st':Dk} {k:Nat} {F:Nat->Prop} (hF:∀ i,F i->w.heap.size<=i) (hb:Below w.heap.size w w1) (h:Did d st' k F w1 w2):ybkh w d st' k w2:=by
 obtain⟨F',h1,h2,h3⟩:=h
 refine⟨F',h1,fun i hi=>?_,hb.trans (h3.to_below hF hb.size)⟩
 rcases h2 i hi with h | h
 ·exact hF i h
 ·exact Nat.le_trans hb.size h
def ybni : ByteArray:=⟨#[114,105,110,103,1]⟩
def qfv (k:Nat):List Int:=((over (List.replicate 64 0) 0 (bI ybni)).set 5 ((k % 256:Nat):Int)).set 6 ((k / 256:Nat):Int)
theorem qgx (k:Nat):(qfv k).length=64:=by unfold qfv;rw[List.length_set,List.length_set];rfl
theorem ybgl (L:List Int) (i:Nat) (x:Int):(u8s L).toArray.setIfInBounds i (.int .u8 x)=(u8s (L.set i x)).toArray:=by
 unfold u8s
 rw[List.map_set]
 simp
theorem qwk (k:Nat) (hk:k<=65535) (w:World):Calls Tryz.prog 35 #[.int .i64 (k:Int)] w (qfm (qfv k) w):=by
 obtain⟨Z,HZ⟩:∃ Z,Hid (Z=List.replicate 64 (0:Int)):=⟨_,rfl⟩
 have hmk:∀ W:World,(Instr.makeSlice 38 (.int .i64 64) (.int .i64 64)).run Tryz.prog W=.ok (.slice (some ⟨W.heap.size,0,none⟩) 64 64) (W.alloc (.cells (u8s Z).toArray 5)):=fun W=>by
  rw[HZ.out];exact qht 64 64 rfl (by omega) W
 have hcp:=qzy (P:=Tryz.prog) (w.alloc (.cells (u8s Z).toArray 5)) 38 9 3 5 u8sT qlb w.heap.size 64 64 ybni Z 5 (heap_alloc_new w _) (by rw[HZ.out];rfl)
 obtain⟨D,HD⟩:∃ D,Hid (over Z 0 ((bI ybni).take 64)=D):=⟨_,rfl⟩
 rw[HD.out]at hcp
 have hDl:D.length=64:=by rw[<-HD.out,HZ.out];rfl
 obtain⟨W1,HW1⟩:∃ W,Hid ((w.alloc (.cells (u8s Z).toArray 5)).setRow w.heap.size (u8s D).toArray=W):=⟨_,rfl⟩
 rw[HW1.out]at hcp
 rw[show ybni=⟨#[114,105,110,103,1]⟩ from rfl]at hcp
 have h1:W1.heap[w.heap.size]? = some (.cells (u8s D).toArray 5 (0,0)):=by rw[<-HW1.out];exact setRow_heap _ _ _ _ _ _ (heap_alloc_new w _)
 have hb1:Below w.heap.size w W1:=by
  rw[<-HW1.out]
  have hb:Below w.heap.size w (w.alloc (.cells (u8s Z).toArray 5)):=(Below.refl _ _).alloc (Nat.le_refl _) _
  exact⟨hb.os,hb.tape,hb.output,by simp,fun i hi=>(setRow_other _ _ i _ (by omega)).trans (hb.block i hi)⟩
 have hD5:∃ x,W1.cell? ⟨w.heap.size,5,none⟩=some x:=⟨_,by rw[cell_of_row _ _ _ _ _ _ h1,<-Array.getElem?_toList];exact qcj D 5 (by omega)⟩
 have hD6:∃ x,W1.cell? ⟨w.heap.size,6,none⟩=some x:=⟨_,by rw[cell_of_row _ _ _ _ _ _ h1,<-Array.getElem?_toList];exact qcj D 6 (by omega)⟩
 obtain⟨x5,c5⟩:=hD5
 obtain⟨x6,c6⟩:=hD6
 have f5:W1.frozen? ⟨w.heap.size,5,none⟩=false:=frozen_of_row _ _ _ _ _ h1
 have f6:W1.frozen? ⟨w.heap.size,6,none⟩=false:=frozen_of_row _ _ _ _ _ h1
 obtain⟨a5,wa⟩:∃ a,IntKind.u8.wrap (k:Int)=a:=⟨_,rfl⟩
 have H1:=Lib.hid h1
 have HB1:=Lib.hid hb1
 clear h1 hb1
 go_enter Tryz.func35,Tryz.ntmps35
 go_wp2
 have hW2:((W1.setCell ⟨w.heap.size,5,none⟩ (.int .u8 a5)).setCell ⟨w.heap.size,6,none⟩ (.int .u8 ((k:Int) / 256))).heap[w.heap.size]? = some (.cells (u8s (qfv k)).toArray 5 (0,0)):=by
  have ha:a5=((k % 256:Nat):Int):=by rw[<-wa];simp[IntKind.wrap,IntKind.bits,IntKind.signed]
  have e1:=heap_setCell_same W1 w.heap.size 5 (u8s D).toArray 5 (.int .u8 a5) H1.out
  rw[ybgl]at e1
  have e2:=heap_setCell_same _ w.heap.size 6 _ 5 (.int .u8 ((k:Int) / 256)) e1
  rw[ybgl]at e2
  rw[e2,ha,<-HD.out,HZ.out]
  have e3:((k:Int) / 256)=((k / 256:Nat):Int):=by omega
  rw[e3]
  rfl
 have hB2:Below w.heap.size w ((W1.setCell ⟨w.heap.size,5,none⟩ (.int .u8 a5)).setCell ⟨w.heap.size,6,none⟩ (.int .u8 ((k:Int) / 256))):=(HB1.out.setCell (Nat.le_refl _) _).setCell (Nat.le_refl _) _
 go_ret
 refine⟨_,rfl,w.heap.size,64,(u8s (qfv k)).toArray,by rw[qgx];rfl,⟨Nat.le_refl _,by rw[qgx];omega⟩,hW2,?_,hB2⟩
 show (u8s (qfv k)).take _=_
 rw[List.take_of_length_le (by rw[qal];exact Nat.le_refl _)]
end Go.Proofs.YtpoglnpjadmbpaaGreatDoor
