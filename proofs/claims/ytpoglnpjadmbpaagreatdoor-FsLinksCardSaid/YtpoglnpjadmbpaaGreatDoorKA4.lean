/- Part of the proofs of FsLinks: the texts IntsClone, Ents, QTail, FactsJ, IntsIn, EqB. -/
import Derived.Test.YtpoglnpjadmbpaaGreatDoorKA3
import Derived.Test.YtpoglnpjadmbpaaGreatDoorProg
import Derived.Lib.SliceRun
import Derived.OwnWalk
import Derived.Laws.AppendOwn
import Derived.StillTail
import Derived.Deep.MidRow
import Derived.LoopTactic
import Derived.IntWalk
import Derived.Deep.QuietTactic
set_option maxHeartbeats 16000000
set_option maxRecDepth 100000
namespace Go.Proofs.YtpoglnpjadmbpaaGreatDoor
open Go.RowKit
theorem qiv : (Tryz.prog.info? 3).map (fun i=>(i.zero,i.size,i.bytes))=some (some (.int .i64 0),1,8):=by kernel_rfl
theorem qpe : Tryz.prog.underlying 32=some (.slice 3):=by kernel_rfl
theorem ybmo (l:List Int):∀ u ∈ ints l,u.oneCell'=true:=by
 intro u hu
 simp only[ints,List.mem_map]at hu
 obtain⟨x,_,rfl⟩:=hu
 rfl
def ybkc (B:Nat) (l:List Int) (w:World) (e:Ending) (w':World):Prop:=∃ v,e=.returned v/\w'.ownsRow B 3 1 v l.length (ints l)/\Below B w w'/\w.heap.size<=w'.heap.size
theorem qgh (v:Value) (l:List Int) (w:World) (h:qao w v l) (h1:l.length<=1000000):
  Calls Tryz.prog 49 #[v] w (ybkc w.heap.size l w):=by
 obtain⟨i0,hi,hz0,hz1,hz2⟩:=info_parts qiv
 have HI:=Lib.hid hi
 have HZ0:=Lib.hid hz0
 have HZ1:=Lib.hid hz1
 have HZ2:=Lib.hid hz2
 clear hi hz0 hz1 hz2
 obtain⟨n,HN⟩:∃ n,Hid (n=l.length):=⟨_,rfl⟩
 obtain⟨a,c,hv,HC⟩:∃ a c,v=.slice a n c/\Hid (∀ ad,a=some ad->∀ j u,(ints l)[j]? = some u->w.cell? (ad.add j)=some u)/\(a=none->n=0):=by
  obtain⟨hl,⟨hn,a,c,rfl⟩ | ⟨g,o,c,rfl,hc⟩⟩:=h
  ·refine⟨a,c,by rw[HN.out,hn],fun ad _ j u hj=>?_,fun _=>by rw[HN.out];exact hn⟩
   have:=(List.getElem?_eq_some_iff.1 hj).1
   omega
  ·refine⟨_,c,by rw[HN.out],fun ad hd j u hj=>?_,fun h=>by cases h⟩
   cases hd
   have hadd:(⟨g,o,none⟩:Addr).add j=⟨g,o+j,none⟩:=by unfold Addr.add;split <;> simp_all
   rw[hadd];exact hc j u hj
 obtain⟨HC,HE⟩:=HC
 subst hv
 have hpl:(ints l).length=n*1:=by rw[Nat.mul_one,HN.out];simp[ints]
 have HPL:=Lib.hid hpl
 rw[<-HN.out]at h1
 clear hpl h
 unfold ybkc
 rw[<-HN.out]
 have q22:∀ (w:World) (a:Option Addr) (n c n' c':Nat),(binOp .eql 32 (.slice a n c) (.slice none n' c')).run Tryz.prog w=.ok (.bool a.isNone) w:=fun w a n c n' c'=>Lib.run_eql_slice_nil w _ _ a n c n' c' qpe
 cases a with
 | none=>
  have HE0:=Lib.hid (HE rfl)
  clear HE
  go_enter Tryz.func49,Tryz.ntmps49
  go_wp2
  go_ret
  exact⟨_,rfl,⟨HPL.out,Or.inl ⟨rfl,HE0.out⟩⟩,Below.refl _ _,Nat.le_refl _⟩
 | some ad=>
  clear HE
  go_enter Tryz.func49,Tryz.ntmps49
  go_wp2_with (at_builtin;refine wpList_append_own _ rfl _ _ 32 rfl w.heap.size 3 i0 (.int .i64 0) 1 8 qpe HI.out HZ0.out HZ1.out HZ2.out rfl (by decide) _ _ _ rfl (World.ownsRow_made w #[] 0 (Nat.le_refl _) (Nat.zero_le _) rfl) ad n c (ints l) rfl ?qc1 ?qc2 ?qc3 ?qc4 ?qc5 ?qc6 ?_)
  case qc1=>exact HPL.out
  case qc2=>
   intro j u hj
   have:=HC.out ad rfl j u hj
   rw[World.cell?_alloc_lt _ _ _ (block_lt_of_cell this)]
   exact this
  case qc3=>exact ybmo l
  case qc4=>unfold maxLen;omega
  case qc5=>omega
  case qc6=>simp
  intro v' w1 hown hgrow hnil
  have hb:Below w.heap.size w w1:=((Below.refl _ w).alloc (Nat.le_refl _) _).grown hgrow (by simp) (by intro k hk;simp[Value.ownBlock]at hk;omega)
  clear hgrow hnil
  go_wp2
  go_ret
  exact⟨v',rfl,hown,hb,hb.size⟩
abbrev En := ByteArray × Int
def ents (l:List En):List Value:=l.flatMap fun x=>[.string x.1,.int .i64 x.2]
theorem qfo (l:List En):(ents l).length=l.length*2:=by
 induction l with
 | nil=>rfl
 | cons x l ih=>simp only[ents,List.flatMap_cons,List.length_append,List.length_cons,List.length_nil]at *;omega
theorem qed (a b:List En):ents (a++b)=ents a++ents b:=by simp[ents]
theorem qvx (l:List En) (k:Nat) (hk:k<l.length):(ents l)[k*2]? = some (.string l[k].1)/\(ents l)[k*2+1]? = some (.int .i64 l[k].2):=by
 induction l generalizing k with
 | nil=>simp at hk
 | cons x l ih=>
  cases k with
  | zero=>simp[ents]
  | succ k=>
   have:=ih k (by simpa using hk)
   simp only[ents,List.flatMap_cons,List.cons_append,List.nil_append]at this ⊢
   rw[show (k+1)*2=k*2+1+1 by omega,show k*2+1+1+1=(k*2+1)+1+1 by omega]
   simpa using this
def qdd (w:World) (v:Value) (l:List En):Prop:=qai w v 2 l.length (ents l)
theorem qgt {w:World} {v:Value} {l:List En} (h:qdd w v l) (N:Nat) (hN:N=l.length):∃ p cp,v=.slice p N cp/\(0<N->∃ g o,p=some ⟨g,o,none⟩/\g<w.heap.size/\∀ k (hk:k<l.length),w.cell? ⟨g,o+k*2,none⟩=some (.string l[k].1)/\w.cell? ⟨g,o+(k*2+1),none⟩=some (.int .i64 l[k].2)):=by
 subst hN
 obtain⟨_,⟨h0,a0,c0,rfl⟩ | ⟨g,o,cap,rfl,hc⟩⟩:=h
 ·exact⟨a0,c0,by rw[h0],fun h=>by omega⟩
 ·refine⟨_,cap,rfl,fun h0=>⟨g,o,rfl,block_lt_of_cell (hc _ _ (qvx l 0 h0).1),fun k hk=>⟨hc _ _ (qvx l k hk).1,hc _ _ (qvx l k hk).2⟩⟩⟩
theorem qvy (l:List En):∀ u ∈ ents l,u.oneCell'=true:=by
 intro u hu
 unfold ents at hu
 obtain⟨x,_,hu⟩:=List.mem_flatMap.1 hu
 simp at hu
 rcases hu with rfl | rfl <;> rfl
theorem qrh : (Tryz.prog.info? 100).map (fun i=>(i.zero,i.size,i.bytes))=some (some (.agg #[.string { data:=#[] },.int .i64 0]),2,24):=by kernel_rfl
theorem ybbq : Tryz.prog.underlying 28=some (.slice 100):=by kernel_rfl
def ybka (B:Nat) (l:List En) (w:World) (e:Ending) (w':World):Prop:=∃ v,e=.returned v/\w'.ownsRow B 100 2 v l.length (ents l)/\Below B w w'/\w.heap.size<=w'.heap.size
theorem qvw (v:Value) (l:List (ByteArray × Int)) (w:World) (h:qai w v 2 l.length (ents l)) (h1:l.length<=1000000):
  Calls Tryz.prog 118 #[v] w (ybka w.heap.size l w):=by
 obtain⟨i0,hi,hz0,hz1,hz2⟩:=info_parts qrh
 have HI:=Lib.hid hi
 have HZ0:=Lib.hid hz0
 have HZ1:=Lib.hid hz1
 have HZ2:=Lib.hid hz2
 clear hi hz0 hz1 hz2
 obtain⟨n,HN⟩:∃ n,Hid (n=l.length):=⟨_,rfl⟩
 obtain⟨a,c,hv,HC⟩:∃ a c,v=.slice a n c/\Hid (∀ ad,a=some ad->∀ j u,(ents l)[j]? = some u->w.cell? (ad.add j)=some u)/\(a=none->n=0):=by
  obtain⟨hl,⟨hn,a,c,rfl⟩ | ⟨g,o,c,rfl,hc⟩⟩:=h
  ·refine⟨a,c,by rw[HN.out,hn],fun ad _ j u hj=>?_,fun _=>by rw[HN.out];exact hn⟩
   have:=(List.getElem?_eq_some_iff.1 hj).1
   omega
  ·refine⟨_,c,by rw[HN.out],fun ad hd j u hj=>?_,fun h=>by cases h⟩
   cases hd
   have hadd:(⟨g,o,none⟩:Addr).add j=⟨g,o+j,none⟩:=by unfold Addr.add;split <;> simp_all
   rw[hadd];exact hc j u hj
 obtain⟨HC,HE⟩:=HC
 subst hv
 have hpl:(ents l).length=n*2:=by rw[qfo,<-HN.out]
 have HPL:=Lib.hid hpl
 rw[<-HN.out]at h1
 clear hpl h
 unfold ybka
 rw[<-HN.out]
 have q22:∀ (w:World) (a:Option Addr) (n c n' c':Nat),(binOp .eql 28 (.slice a n c) (.slice none n' c')).run Tryz.prog w=.ok (.bool a.isNone) w:=fun w a n c n' c'=>Lib.run_eql_slice_nil w _ _ a n c n' c' ybbq
 cases a with
 | none=>
  have HE0:=Lib.hid (HE rfl)
  clear HE
  go_enter Tryz.func118,Tryz.ntmps118
  go_wp2
  go_ret
  exact⟨_,rfl,⟨HPL.out,Or.inl ⟨rfl,HE0.out⟩⟩,Below.refl _ _,Nat.le_refl _⟩
 | some ad=>
  clear HE
  go_enter Tryz.func118,Tryz.ntmps118
  go_wp2_with (at_builtin;refine wpList_append_own _ rfl _ _ 28 rfl w.heap.size 100 i0 (.agg #[.string { data:=#[] },.int .i64 0]) 2 24 ybbq HI.out HZ0.out HZ1.out HZ2.out rfl (by decide) _ _ _ rfl (World.ownsRow_made w #[] 0 (Nat.le_refl _) (Nat.zero_le _) rfl) ad n c (ents l) rfl ?qc1 ?qc2 ?qc3 ?qc4 ?qc5 ?qc6 ?_)
  case qc1=>exact HPL.out
  case qc2=>
   intro j u hj
   have:=HC.out ad rfl j u hj
   rw[World.cell?_alloc_lt _ _ _ (block_lt_of_cell this)]
   exact this
  case qc3=>exact qvy l
  case qc4=>unfold maxLen;omega
  case qc5=>omega
  case qc6=>simp
  intro v' w1 hown hgrow hnil
  have hb:Below w.heap.size w w1:=((Below.refl _ w).alloc (Nat.le_refl _) _).grown hgrow (by simp) (by intro k hk;simp[Value.ownBlock]at hk;omega)
  clear hgrow hnil
  go_wp2
  go_ret
  exact⟨v',rfl,hown,hb,hb.size⟩
section
variable {P : Program} {ops : Array Oper} {md : Region.Mode} {C : World -> Prop}
def ybmm (P:Program) (md:Region.Mode) (ops:Array Oper) (C:World->Prop) (n:Nat) (T:Array Bool->Act->Prop):Nat->Array Bool->Act->Prop
 | 0,done,a=>T done a
 | f+1,done,a=>Region.ready md ops done ≠ []/\∀ i ∈ Region.ready md ops done,i<n/\qOp P ops C i (ybmm P md ops C n T f (done.setIfInBounds i true)) a
theorem qpa {n g:Nat} {T:Array Bool->Act->Prop} {Q:Exit->Act->World->Prop} (hT:∀ done a w,C w->T done a->wpAny P md ops Q g done a w):
  ∀ (f:Nat) (done:Array Bool) (a:Act) (w:World),C w->ybmm P md ops C n T f done a->wpAny P md ops Q (f+g) done a w
 | 0,done,a,w,hw,h=>by rw[Nat.zero_add];exact hT _ _ _ hw h
 | f+1,done,a,w,hw,h=>by
  rw[show f+1+g=(f+g)+1 by omega]
  exact⟨fun h0=>absurd h0 h.1,fun i hi=>wpOp_of_qOp hw (fun a' w' hw' h'=>qpa hT f _ a' w' hw' h') (h.2 i hi).2⟩
theorem ybhw {n i:Nat} {oi:Oper} {v:Value} {T:Array Bool->Act->Prop} (hi:ops[i]? = some oi) (hsel:∀ (j:Nat) (o:Oper) cs b,ops[j]? = some o->o.op ≠ .select cs b)
  (hs:Region.sinkB md ops n=true) (hc:Region.chainB md ops n=true) (hn:n<ops.size) (hin:i<n) (hT:∀ done a,T done a->∀ j ∈ Region.ready md ops done,n<=j) (f:Nat):
  ∀ (done:Array Bool) (a:Act),HeadInv md ops n done ->
   (∀ j oj,ops[j]? = some oj->j ≠ i->done.getD j true=false->(∀ e ∈ oj.after,Region.binds md e=true->e.on ≠ i)->oi.apart ops oj=true) ->
   i ∈ Region.ready md ops done->YieldsIn P ops C oi v a->ybmm P md ops C n T f (done.setIfInBounds i true) (a.put oi.dst v)->ybmm P md ops C n T (f+1) done a:=by
 induction f with
 | zero=>
  intro done a inv _ hr hy H
  have hun:=(mem_ready.1 hr).1
  refine⟨List.ne_nil_of_mem hr,fun j hj=>?_⟩
  have hjn:j<n:=Nat.lt_of_not_le fun h=>tail_waits hs hc hn inv _ i rfl hin hun j h hj
  refine⟨hjn,?_⟩
  by_cases hji:j=i
  ·subst hji;exact hy.qOp hi H
  ·exact absurd (hT _ _ H j (ready_mono hj hji)) (by omega)
 | succ f ih=>
  intro done a inv hfree hr hy H
  have hun:=(mem_ready.1 hr).1
  refine⟨List.ne_nil_of_mem hr,fun j hj=>?_⟩
  have hjn:j<n:=Nat.lt_of_not_le fun h=>tail_waits hs hc hn inv _ i rfl hin hun j h hj
  refine⟨hjn,?_⟩
  by_cases hji:j=i
  ·subst hji;exact hy.qOp hi H
  ·obtain⟨hjun,oj,hoj,hall⟩:=mem_ready.1 hj
   have hno:∀ e ∈ oj.after,Region.binds md e=true->e.on ≠ i:=fun e he hb heq=>by
    have h1:=hall e he hb
    rw[heq,getD_both hun]at h1
    cases h1
   refine qOp_mono (fun a' h3=>ih (done.setIfInBounds j true) a' (inv.set hj hjn) ?_ (ready_mono hr (Ne.symm hji)) h3.1 ?_) (qOp_put hoj (hfree j oj hoj hji hjun hno) (fun cs b=>hsel i oi cs b hi) (fun cs b=>hsel j oj cs b hoj) hy (H.2 j (ready_mono hj hji)).2)
   ·intro k ok hk hki hk0 hkn
    refine hfree k ok hk hki ?_ hkn
    by_cases hjk:j=k
    ·subst hjk;exact hjun
    ·rw[getD_set_ne true hjk]at hk0;exact hk0
   ·rw[Array.setIfInBounds_comm _ _ hji]
    exact h3.2
theorem quj {n g:Nat} {T:Act->Prop} (hsel:Region.noSelect ops=true) (hs:Region.sinkB md ops n=true) (hc:Region.chainB md ops n=true) (hn:n<ops.size):
  ∀ (l:List Oper) (k:Nat) (done:Array Bool) (a:Act),(∀ j,j<l.length->l[j]? = ops[k+j]?)->k+l.length=n->HeadInv md ops n done ->
  Region.lexHead md ops g l.length k done=true->wpQuiet P ops C T l a ->
  ybmm P md ops C n (fun done' a'=>Region.seqB md ops g n done'=true/\T a') l.length done a
 | [],k,done,a,_,hk,_,hB,h=>by
  obtain rfl:k=n:=by simpa using hk
  exact⟨by simpa[Region.lexHead]using hB,h⟩
 | o :: l,k,done,a,hl,hk,inv,hB,h=>by
  have h0:ops[k]? = some o:=by simpa using (hl 0 (by simp)).symm
  simp only[List.length_cons,Region.lexHead,Bool.and_eq_true]at hB
  obtain⟨⟨hr,hf⟩,hB'⟩:=hB
  have hkn:k<n:=by simp only[List.length_cons]at hk;omega
  have hr':k ∈ Region.ready md ops done:=by simpa using hr
  have hst:qOp P ops C k (wpQuiet P ops C T l) a:=by unfold qOp;simp only[h0];exact h
  obtain⟨v,hy,hK⟩:=yieldsIn_of_qOp h0 hst
  exact ybhw h0 (Region.noSelect_spec hsel) hs hc hn hkn (fun done' a' hL=>seqB_ready hL.1) l.length done a inv (Region.free_spec h0 hf) hr' hy
   (quj hsel hs hc hn l (k+1) _ _ (fun j hj=>by have:=hl (j+1) (by simp;omega);simpa[Nat.add_assoc,Nat.add_comm 1 j]using this) (by simp only[List.length_cons]at hk;omega) (inv.set hr' hkn) hB' hK)
theorem qdu {id:Nat} {Q:Exit->Act->World->Prop} {a:Act} {w:World} {l:List Oper} (n:Nat) (hm:P.follows .mixedOrders=true) (hB:Region.lexTailB .any l.toArray n=true)
  (h:wpQuiet P l.toArray (fun w'=>∃ p:Regrown,w'=Sort.grow (redrawn w p.d) p.os) (fun a'=>∀ w',(∃ p:Regrown,w'=Sort.grow (redrawn w p.d) p.os)->wpList P l.toArray Q (l.drop n) a' w') (l.take n) a):(Code.region id l.toArray true).wp P Q a w:=by
 simp only[Region.lexTailB,Bool.and_eq_true,decide_eq_true_eq]at hB
 obtain⟨⟨⟨⟨hsel,hn⟩,hs⟩,hc⟩,hlex⟩:=hB
 have hn':n<l.length:=by simpa using hn
 have htl:(l.take n).length=n:=by simp;omega
 have hdl:(l.drop n).length=l.toArray.size - n:=by simp
 have inv0:HeadInv .any l.toArray n (Array.replicate l.toArray.size false):=
  ⟨by simp,fun j oj _ hl=>(by rw[getD_replicate_false]at hl;cases hl),fun t _ ht=>getD_in (by simpa using ht) (getD_replicate_false _ _)⟩
 have H:=quj (md:=.any) (g:=l.toArray.size - n) hsel hs hc hn (l.take n) 0 _ a (fun j hj=>by
  have hj':j<n:=by rw[htl]at hj;exact hj
  simp[hj']) (by simpa using htl) inv0 (by rw[htl];exact hlex) h
 refine wp_region_any hm ?_
 have hstart:∃ p:Regrown,({ w with drawn:=w.drawn+1 }:World)=Sort.grow (redrawn w p.d) p.os:=regrown_of_below ⟨rfl,rfl,rfl,Nat.le_refl _,fun _ _=>rfl⟩
 have:=qpa (Q:=Q) (g:=l.toArray.size - n) (fun done a' w' hw' hL=>by
  have:=wpAny_of_seq (md:=.any) (Q':=Q) (l.drop n) n done a' w' (fun j=>by simp[List.getElem?_drop]) (by rw[hdl];exact hL.1) (hL.2 w' hw')
  rwa [hdl]at this) _ _ _ _ hstart H
 rw[htl,show n+(l.toArray.size - n)=l.toArray.size by omega]at this
 exact this
end
section
variable {P : Program} {l : List Oper}
structure FJ (J : (Nat -> Bool) -> (Nat -> Value) -> World -> Prop) (m : Nat) (sl : Nat -> Nat) (F : Nat -> Value -> Prop) (old : Nat -> Value -> Prop) (D : Nat -> Bool) (a : Act) (u : World) : Prop where
 j:J D (fun i=>a.tmps.getD (sl i) undef) u
 size:a.tmps.size=m
 dfs:a.defers=[]
 old:∀ k v,old k v->a.tmps.getD k undef=v
 fact:∀ i,D i=true->F i (a.tmps.getD (sl i) undef)
theorem qth {Q:Exit->Act->World->Prop} {id:Nat} {a:Act} {w:World} (hm:P.follows .mixedOrders=true) (hr:qsq l=true) (J:(Nat->Bool)->(Nat->Value)->World->Prop) (m:Nat) (sl:Nat->Nat) (F:Nat->Value->Prop) (old:Nat->Value->Prop)
  (hinj:∀ i j,i ≠ j->sl i ≠ sl j) (hold:∀ i k v,old k v->k ≠ sl i)
  (hsl:(l.zipIdx.all fun p=>p.1.guard.isNone && p.1.dst == (if sl p.2<m then some (sl p.2) else none))=true)
  (h0:a.tmps.size=m/\a.defers=[]/\(∀ k v,old k v->a.tmps.getD k undef=v)/\J (fun _=>false) (fun i=>a.tmps.getD (sl i) undef) w.drew)
  (hstep:∀ D a u,FJ J m sl F old D a u->∀ i o,l[i]? = some o->D i=false->(∀ e ∈ o.after,Region.binds .any e=true->D e.on=true) ->
   o.wp P a u (fun a' u'=>∃ v,a'=a.put o.dst v/\(m<=sl i->v=undef)/\F i v/\∀ g,g i=v->(∀ k,k ≠ i->g k=a.tmps.getD (sl k) undef)->J (upd D i) g u') Q)
  (hend:∀ D a u,FJ J m sl F old D a u->(∀ i,i<l.length->D i=true)->Q .normal a u):(Code.region id l.toArray true).wp P Q a w:=by
 refine qje hm hr (FJ J m sl F old) ?_ ?_ hend
 ·exact⟨h0.2.2.2,h0.1,h0.2.1,h0.2.2.1,fun i hi=>by simp at hi⟩
 ·intro D a u h i o ho hD ha
  have hil:i<l.length:=(List.getElem?_eq_some_iff.1 ho).1
  have hP:=List.all_eq_true.1 hsl (o,i) (by rw[List.mem_zipIdx_iff_getElem?];exact ho)
  simp only[Bool.and_eq_true,Option.isNone_iff_eq_none,beq_iff_eq]at hP
  obtain⟨hg,hd⟩:=hP
  refine qkr hg (Oper.wp_mono ?_ (hstep D a u h i o ho hD ha))
  rintro a' u' ⟨v,rfl,hu,hF,hJ⟩
  by_cases hlt:sl i<m
  ·rw[if_pos hlt]at hd
   rw[hd]
   have hlt2:sl i<a.tmps.size:=by rw[h.size];exact hlt
   have hsame:(a.put (some (sl i)) v).tmps.getD (sl i) undef=v:=by
    show (a.tmps.setIfInBounds (sl i) v).getD (sl i) undef=v
    simp[Array.getD_eq_getD_getElem?,hlt2]
   have hoth:∀ k,k ≠ sl i->(a.put (some (sl i)) v).tmps.getD k undef=a.tmps.getD k undef:=fun k hk=>by
    show (a.tmps.setIfInBounds (sl i) v).getD k undef=_
    simp only[Array.getD_eq_getD_getElem?,Array.getElem?_setIfInBounds,if_neg (Ne.symm hk)]
   refine⟨hJ _ hsame fun k hk=>hoth _ (hinj k i hk),?_,h.dfs,fun k v hk=>?_,fun j hj=>?_⟩
   ·show (a.tmps.setIfInBounds (sl i) v).size=m
    rw[Array.size_setIfInBounds];exact h.size
   ·rw[hoth k (hold i k v hk)];exact h.old k v hk
   ·by_cases hji:j=i
    ·subst hji;rw[hsame];exact hF
    ·rw[hoth _ (hinj j i hji)];exact h.fact j (qzh hj hji)
  ·rw[if_neg hlt]at hd
   rw[hd]
   obtain rfl:=hu (by omega)
   have hsame:a.tmps.getD (sl i) undef=undef:=by
    have:¬ sl i<a.tmps.size:=by rw[h.size];exact hlt
    simp only[Array.getD_eq_getD_getElem?]
    rw[Array.getElem?_eq_none (by omega)]
    rfl
   refine⟨hJ _ hsame fun k _=>rfl,h.size,h.dfs,h.old,fun j hj=>?_⟩
   by_cases hji:j=i
   ·subst hji;show F j (a.tmps.getD (sl j) undef);rw[hsame];exact hF
   ·exact h.fact j (qzh hj hji)
end
theorem quw {w:World} {g o:Nat} {R A:Array Value} {t:TypeId} {fr:Nat × Nat} (h:w.heap[g]? = some (.cells R t fr)) (hp:∀ j,j<A.size->R[o+j]? = A[j]?):w.rangeAt g o A.toList:=fun j v hv=>by
 have hjA:j<A.size:=by
  have:=(List.getElem?_eq_some_iff.1 hv).1
  simpa using this
 rw[cell_of_row _ _ _ _ _ _ h,hp j hjA,<-hv,Array.getElem?_toList]
theorem qib {w:World} {v:Value} {l:List Int} (h:qao w v l):∃ p cp,v=.slice p l.length cp/\Hid (0<l.length->∃ g o,p=some ⟨g,o,none⟩/\∀ (j:Nat) (x:Value),(ints l)[j]? = some x->w.cell? ⟨g,o+j,none⟩=some x):=by
 obtain⟨_,⟨h0,a0,c0,rfl⟩ | ⟨g,o,cap,rfl,hc⟩⟩:=h
 ·exact⟨a0,c0,by rw[h0],fun h=>by omega⟩
 ·exact⟨_,cap,rfl,fun _=>⟨g,o,rfl,hc⟩⟩
def idxL (l:List Int) (x:Int):Int:=match l.findIdx? (fun y=>y == x) with | some k=>(k:Int) | none=> -1
theorem qwg (v:Value) (l:List Int) (x:Int) (w:World) (h:qao w v l) (hl:l.length<=1000000):
  Calls Tryz.prog 156 #[v,.int .i64 x] w fun e w'=>e=.returned (.int .i64 (idxL l x))/\w=w':=by
 obtain⟨p,cp,rfl,HP⟩:=qib h
 obtain⟨N,HN⟩:∃ N,Hid (l.length=N):=⟨_,rfl⟩
 rw[HN.out]at hl HP
 rw[HN.out]
 clear h
 go_enter Tryz.func156,Tryz.ntmps156
 go_wp2
 go_loop [8] (fun i=>∃ k:Nat,k<=N/\i=.int .i64 k/\Hid (∀ j (hj:j<l.length),j<k->l[j] ≠ x)) (fun i=>N - (intOf i).toNat)
 case atStart=>exact⟨0,Nat.zero_le _,rfl,fun j _ h=>absurd h (Nat.not_lt_zero j)⟩
 case round=>
  obtain⟨k,hk,rfl,HE⟩:=hrel
  by_cases hlt:k<N
  ·obtain⟨g,o,rfl,hc⟩:=HP.out (by omega)
   have hkl:k<l.length:=by rw[HN.out];exact hlt
   have hp:=qdn l k hkl
   obtain⟨y,Hy⟩:∃ y,Hid (l[k]=y):=⟨l[k],rfl⟩
   rw[Hy.out]at hp
   have c1:=hc _ _ hp
   have hlt2:(k:Int)<(N:Int):=by omega
   clear hc hp
   by_cases hxy:x=y
   ·have HF:Hid (idxL l x=(k:Int)):=by
     show _=_
     unfold idxL
     have:l.findIdx? (fun y=>y == x)=some k:=by
      rw[List.findIdx?_eq_some_iff_getElem]
      exact⟨hkl,by rw[Hy.out,hxy];simp,fun j hj=>by simpa using HE.out j (by omega) hj⟩
     rw[this]
    subst hxy
    go_wp2
    go_ret
    rw[HF.out]
    exact⟨rfl,rfl⟩
   ·have HE2:Hid (∀ j (hj:j<l.length),j<k+1->l[j] ≠ x):=fun j hj h=>by
     by_cases e:j=k
     ·subst e;rw[Hy.out];exact fun e=>hxy e.symm
     ·exact HE.out j hj (by omega)
    have b1:(x == y)=false:=by simpa using hxy
    clear hxy
    go_wp2
    go_round
    case rel=>exact⟨k+1,by omega,by go_num,HE2⟩
    case measure=>simp[intOf];omega
  ·have HF:Hid (idxL l x = -1):=by
    show _=_
    unfold idxL
    have:l.findIdx? (fun y=>y == x)=none:=by
     rw[List.findIdx?_eq_none_iff]
     intro y hy
     obtain⟨j,hj,rfl⟩:=List.getElem_of_mem hy
     simpa using HE.out j hj (by rw[HN.out]at hj;omega)
    rw[this]
   go_wp2
   go_ret
   rw[HF.out]
   exact⟨rfl,rfl⟩
theorem qwf (l:List Int) (x:Int):decide (0<=idxL l x)=l.contains x:=by
 unfold idxL
 cases h:l.findIdx? fun y=>y == x with
 | none=>
  rw[List.findIdx?_eq_none_iff]at h
  rw[show decide (0<=(-1:Int))=false from rfl]
  symm
  rw[<-Bool.not_eq_true]
  intro hc
  have:=h x (by simpa using hc)
  simp at this
 | some k=>
  rw[List.findIdx?_eq_some_iff_getElem]at h
  obtain⟨h1,h2,_⟩:=h
  rw[decide_eq_true (show (0:Int)<=(k:Int) by omega)]
  symm
  simp only[List.contains_iff_mem,beq_iff_eq]at *
  rw[<-h2]
  exact List.getElem_mem h1
theorem qpp (v:Value) (l:List Int) (x:Int) (w:World) (h:qao w v l) (hl:l.length<=1000000):
  Calls Tryz.prog 112 #[v,.int .i64 x] w fun e w'=>e=.returned (.bool (l.contains x))/\w=w':=by
 have HX:=Lib.hid (qwg v l x w h hl)
 obtain⟨p,cp,rfl,_⟩:=qib h
 have HC:=Lib.hid (qwf l x)
 have hb: -1<=idxL l x/\idxL l x<=1000000:=by
  unfold idxL
  cases h2:l.findIdx? fun y=>y == x with
  | none=>exact⟨by simp,by simp⟩
  | some k=>
   rw[List.findIdx?_eq_some_iff_getElem]at h2
   obtain⟨h1,_⟩:=h2
   exact⟨by show (-1:Int)<=(k:Int);omega,by show (k:Int)<=1000000;omega⟩
 obtain⟨hb1,hb2⟩:=hb
 clear h hl
 generalize idxL l x=q at *
 go_enter Tryz.func112,Tryz.ntmps112
 go_wp2_with fail
 refine HX.out.mono ?_
 rintro e w' ⟨rfl,rfl⟩
 go_wp2
 go_ret
 rw[<-HC.out]
 exact⟨rfl,rfl⟩
theorem qgf {B:Nat} {a w:World} (h:Below B a w) (n:Nat):Below B a (w.drewN n):=⟨h.os,h.tape,h.output,h.size,h.block⟩
def qtl (a b:List Int):Bool:=decide (a=b)
theorem qjg (u v:Value) (a b:List Int) (w:World) (h1:qaf w u a) (h2:qaf w v b) (hab:a.length=b.length) (hl:a.length<=1000000):
  Calls Tryz.prog 34 #[u,v] w fun e w'=>e=.returned (.bool (qtl a b))/\Below w.heap.size w w':=by
 obtain⟨N,HN⟩:∃ N,Hid (N=a.length):=⟨_,rfl⟩
 have HNb:Hid (N=b.length):=by rw[HN.out];exact hab
 obtain⟨p,cp,hu,HP⟩:∃ p cp,u=.slice p N cp/\Hid (0<N->∃ g o,p=some ⟨g,o,none⟩/\∀ (j:Nat) (x:Value),(u8s a)[j]? = some x->w.cell? ⟨g,o+j,none⟩=some x):=by
  rw[HN.out]
  obtain⟨_,⟨h0,a0,c0,rfl⟩ | ⟨g,o,cap,rfl,hc⟩⟩:=h1
  ·exact⟨a0,c0,by rw[h0],fun h=>by omega⟩
  ·exact⟨_,cap,rfl,fun _=>⟨g,o,rfl,hc⟩⟩
 obtain⟨q,cq,hv,HQ⟩:∃ p cp,v=.slice p N cp/\Hid (0<N->∃ g o,p=some ⟨g,o,none⟩/\∀ (j:Nat) (x:Value),(u8s b)[j]? = some x->w.cell? ⟨g,o+j,none⟩=some x):=by
  rw[HNb.out]
  obtain⟨_,⟨h0,a0,c0,rfl⟩ | ⟨g,o,cap,rfl,hc⟩⟩:=h2
  ·exact⟨a0,c0,by rw[h0],fun h=>by omega⟩
  ·exact⟨_,cap,rfl,fun _=>⟨g,o,rfl,hc⟩⟩
 subst hu hv
 rw[<-HN.out]at hl
 clear h1 h2 hab
 go_enter Tryz.func34,Tryz.ntmps34
 go_wp2
 go_loopw [13] (fun i wr=>∃ k:Nat,k<=N/\i=.int .i64 k/\Hid (a.take k=b.take k)/\Below w.heap.size w wr) (fun i _=>N - (intOf i).toNat)
 case atStart=>exact⟨0,Nat.zero_le _,rfl,rfl,Below.refl _ _⟩
 case round=>
  obtain⟨k,hk,rfl,HE,HB⟩:=hrel
  by_cases hlt:k<N
  ·obtain⟨g,o,rfl,hc⟩:=HP.out (by omega)
   obtain⟨g',o',rfl,hc'⟩:=HQ.out (by omega)
   have hkl:k<a.length:=by rw[<-HN.out];exact hlt
   have hkb:k<b.length:=by rw[<-HNb.out];exact hlt
   have hp:=qcj a k hkl
   have hq:=qcj b k hkb
   obtain⟨x,hx⟩:∃ x,Hid (x=a[k]):=⟨a[k],rfl⟩
   obtain⟨y,hy⟩:∃ y,Hid (y=b[k]):=⟨b[k],rfl⟩
   rw[<-hx.out]at hp
   rw[<-hy.out]at hq
   have keep:∀ {x:Addr} {y:Value},w.cell? x=some y->wr.cell? x=some y:=fun h=>(HB.cell (block_lt_of_cell h)).trans h
   have c1:=keep (hc _ _ hp)
   have d1:=keep (hc' _ _ hq)
   have HC:=Lib.hid hc
   have HC':=Lib.hid hc'
   clear hc hc' hp hq keep
   have hlt2:(k:Int)<(N:Int):=by omega
   by_cases hxy:x=y
   ·have HE2:Hid (a.take (k+1)=b.take (k+1)):=by
     show _=_
     rw[<-List.take_append_getElem hkl,<-List.take_append_getElem hkb,HE.out,<-hx.out,<-hy.out,hxy]
    subst hxy
    go_wp2
    go_quiet (fail)
    go_wp2
    go_roundw
    case rel=>exact⟨k+1,by omega,by go_num,HE2,qgf HB _⟩
    case measure=>simp[intOf];omega
   ·have HF:Hid (qtl a b=false):=by
     show _=_
     unfold qtl
     rw[decide_eq_false_iff_not]
     intro e
     apply hxy
     rw[hx.out,hy.out]
     subst e
     rfl
    have b1:(x == y)=false:=by simpa using hxy
    have b2:(x != y)=true:=by simpa using hxy
    have HXY:=Lib.hid hxy
    clear hxy
    go_wp2
    go_quiet (fail)
    go_wp2
    go_ret
    rw[HF.out]
    exact⟨rfl,qgf HB _⟩
  ·have HF:Hid (qtl a b=true):=by
    show _=_
    unfold qtl
    rw[decide_eq_true_iff]
    have:=HE.out
    rw[List.take_of_length_le (by rw[<-HN.out];omega),List.take_of_length_le (by rw[<-HNb.out];omega)]at this
    exact this
   go_wp2
   go_ret
   rw[HF.out]
   exact⟨rfl,HB⟩
end Go.Proofs.YtpoglnpjadmbpaaGreatDoor
