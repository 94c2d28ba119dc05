/- Part of the proofs of FsLinks: the texts Rq, RqOps, Jw, GScan. -/
import Derived.Test.YtpoglnpjadmbpaaGreatDoorKA14
set_option maxHeartbeats 16000000
set_option maxRecDepth 100000
namespace Go.Proofs.YtpoglnpjadmbpaaGreatDoor
open Go.RowKit
structure Rq where
 n:Nat
 v:Value
 D:List Int
 b:Bool
def rab (x:Rq):Rb:=(x.n,x.D,x.b)
def rq3 (x:Rq):List Value:=[.int .i64 (x.n:Int),x.v,.bool x.b]
def qbe (E:List Rq):List Value:=E.flatMap rq3
theorem qik (l:List Rq):(qbe l).length=l.length*3:=by
 induction l with
 | nil=>rfl
 | cons x l ih=>simp only[qbe,rq3,List.flatMap_cons,List.length_append,List.length_cons,List.length_nil]at *;omega
theorem qgl (a b:List Rq):qbe (a++b)=qbe a++qbe b:=by simp[qbe]
theorem qsm (x:Rq) (b:List Rq):qbe (x :: b)=rq3 x++qbe b:=by simp[qbe]
theorem qpi (l:List Rq) (k:Nat):(qbe l).take (k*3)=qbe (l.take k)/\(qbe l).drop (k*3)=qbe (l.drop k):=by
 by_cases hk:k<=l.length
 ·have e:qbe l=qbe (l.take k)++qbe (l.drop k):=by rw[<-qgl,List.take_append_drop]
  have hl:(qbe (l.take k)).length=k*3:=by rw[qik,List.length_take];omega
  constructor
  ·rw[e,<-hl,List.take_left]
  ·rw[e,<-hl,List.drop_left]
 ·have:=qik l
  rw[List.take_of_length_le (l:=l) (by omega),List.drop_of_length_le (l:=l) (by omega),List.take_of_length_le (by omega),List.drop_of_length_le (by omega)]
  exact⟨rfl,rfl⟩
theorem qfi (l:List Rq) (k:Nat) (hk:k<l.length):(qbe l)[k*3]? = some (.int .i64 (l[k].n:Int))/\(qbe l)[k*3+1]? = some l[k].v/\(qbe l)[k*3+2]? = some (.bool l[k].b):=by
 have e:qbe l=qbe (l.take k)++(.int .i64 (l[k].n:Int) :: l[k].v :: .bool l[k].b :: qbe (l.drop (k+1))):=by
  conv=>lhs;rw[<-List.take_append_drop k l,List.drop_eq_getElem_cons hk,qgl,qsm]
  rfl
 have hl:(qbe (l.take k)).length=k*3:=by rw[qik,List.length_take];omega
 rw[e]
 refine⟨?_,?_,?_⟩
 ·rw[List.getElem?_append_right (by omega),hl,show k*3 - k*3=0 by omega];rfl
 ·rw[List.getElem?_append_right (by omega),hl,show k*3+1 - k*3=1 by omega];rfl
 ·rw[List.getElem?_append_right (by omega),hl,show k*3+2 - k*3=2 by omega];rfl
def RqOk (w:World) (x:Rq):Prop:=(x.b=true/\x.n=0/\x.v=.slice none 0 0/\x.D=[])\/(x.b=false/\x.n<256/\qaf w x.v x.D/\x.D.length=64)
def ybqp (w:World) (v:Value) (L:List Rb):Prop:=∃ E:List Rq,E.map rab=L/\qai w v 3 E.length (qbe E)/\∀ x ∈ E,RqOk w x
theorem RqOk.below {w w':World} {x:Rq} (h:RqOk w x) (hb:Below w.heap.size w w'):RqOk w' x:=by
 rcases h with h | ⟨h1,h2,h3,h4⟩
 ·exact Or.inl h
 ·exact Or.inr ⟨h1,h2,qai.below h3 hb,h4⟩
theorem ybqp.below {w w':World} {v:Value} {L:List Rb} (h:ybqp w v L) (hb:Below w.heap.size w w'):ybqp w' v L:=by
 obtain⟨E,he,h1,h2⟩:=h
 exact⟨E,he,qai.below h1 hb,fun x hx=>(h2 x hx).below hb⟩
def qoc (w:World) (base:Nat) (x:Rq):Prop:=(x.b=true/\x.n=0/\x.v=.slice none 0 0/\x.D=[]) \/
 (x.b=false/\x.n<256/\x.D.length=64/\∃ g cap cur,x.v=.slice (some ⟨g,0,none⟩) 64 cap/\(base<=g/\64<=cap)/\w.heap[g]? = some (.cells cur 5 (0,0))/\cur.toList.take 64=u8s x.D)
def qdv (w:World) (base:Nat) (v:Value) (L:List Rb):Prop:=∃ E:List Rq,E.map rab=L/\w.ownsRow base 171 3 v E.length (qbe E)/\∀ x ∈ E,qoc w base x
theorem qoc.ok {w:World} {base:Nat} {x:Rq} (h:qoc w base x):RqOk w x:=by
 rcases h with h | ⟨h1,h2,h3,g,cap,cur,h4,h5,h6,h7⟩
 ·exact Or.inl h
 ·exact Or.inr ⟨h1,h2,by rw[h4];exact qav h3 h6 h7,h3⟩
theorem qoc.one {w:World} {base:Nat} {x:Rq} (h:qoc w base x):x.v.oneCell'=true:=by
 rcases h with⟨_,_,h,_⟩ | ⟨_,_,_,g,cap,cur,h4,_⟩
 ·rw[h];rfl
 ·rw[h4];rfl
theorem qoc.mono {w:World} {base base':Nat} {x:Rq} (h:qoc w base x) (hb:base'<=base):qoc w base' x:=by
 rcases h with h | ⟨h1,h2,h3,g,cap,cur,h4,h5,h6,h7⟩
 ·exact Or.inl h
 ·exact Or.inr ⟨h1,h2,h3,g,cap,cur,h4,⟨Nat.le_trans hb h5.1,h5.2⟩,h6,h7⟩
theorem qoc.keep {w w':World} {base:Nat} {x:Rq} (h:qoc w base x) (hk:∀ i c,base<=i->w.heap[i]? = some (.cells c 5 (0,0))->w'.heap[i]? = w.heap[i]?):qoc w' base x:=by
 rcases h with h | ⟨h1,h2,h3,g,cap,cur,h4,h5,h6,h7⟩
 ·exact Or.inl h
 ·exact Or.inr ⟨h1,h2,h3,g,cap,cur,h4,h5,(hk g cur h5.1 h6).trans h6,h7⟩
theorem qdv.at {w:World} {base:Nat} {v:Value} {L:List Rb} (h:qdv w base v L):ybqp w v L:=by
 obtain⟨E,he,h1,h2⟩:=h
 exact⟨E,he,qai.of_owns h1,fun x hx=>(h2 x hx).ok⟩
theorem qdv.keeps {w w':World} {base:Nat} {v:Value} {L:List Rb} {F:Nat->Prop} (h:qdv w base v L) (hk:qab F w w') (hF:∀ i,base<=i->i<w.heap.size->¬ F i):qdv w' base v L:=by
 obtain⟨E,he,h1,h2⟩:=h
 have hlt:=h1.lt
 exact⟨E,he,qci h1 fun b hb=>hk.block b (hlt b hb).2 (hF b (hlt b hb).1 (hlt b hb).2),fun x hx=>(h2 x hx).keep fun i c hi hc=>hk.block i (qac hc) (hF i hi (qac hc))⟩
theorem qdv.below {w w':World} {base:Nat} {v:Value} {L:List Rb} (h:qdv w base v L) (hb:Below w.heap.size w w'):qdv w' base v L:=
 h.keeps (F:=fun _=>False) (qab.of_below hb) fun _ _ _ h=>h
theorem qdv.mono {w:World} {base base':Nat} {v:Value} {L:List Rb} (h:qdv w base v L) (hb:base'<=base):qdv w base' v L:=by
 obtain⟨E,he,⟨h1,h2⟩,h3⟩:=h
 refine⟨E,he,⟨h1,?_⟩,fun x hx=>(h3 x hx).mono hb⟩
 rcases h2 with h2 | ⟨g,cap,cur,hv,hg,r⟩
 ·exact Or.inl h2
 ·exact Or.inr ⟨g,cap,cur,hv,Nat.le_trans hb hg,r⟩
theorem ybdk {E:List Rq} {L:List Rb} (h:E.map rab=L):E.length=L.length:=by rw[<-h,List.length_map]
theorem ybuq {w:World} {base:Nat} {E:List Rq} (h:∀ x ∈ E,qoc w base x):∀ u ∈ qbe E,u.oneCell'=true:=by
 intro u hu
 unfold qbe at hu
 obtain⟨x,hx,hu⟩:=List.mem_flatMap.1 hu
 have:=(h x hx).one
 simp[rq3]at hu
 rcases hu with rfl | rfl | rfl
 ·rfl
 ·exact this
 ·rfl
theorem qwu {w:World} {v:Value} {E:List Rq} (h:qai w v 3 E.length (qbe E)):∃ p cp,v=.slice p E.length cp/\Hid (0<E.length->∃ g o,p=some ⟨g,o,none⟩/\g<w.heap.size/\∀ (j:Nat) (x:Value),(qbe E)[j]? = some x->w.cell? ⟨g,o+j,none⟩=some x):=by
 obtain⟨_,⟨h0,a0,c0,rfl⟩ | ⟨g,o,cap,rfl,hc⟩⟩:=h
 ·exact⟨a0,c0,by rw[h0],fun h=>by omega⟩
 ·refine⟨_,cap,rfl,fun h0=>⟨g,o,rfl,?_,hc⟩⟩
  exact block_lt_of_cell (hc _ _ (qfi E 0 h0).1)
theorem RqOk.shape {w:World} {x:Rq} (h:RqOk w x):∃ p l c,x.v=.slice p l c/\(x.b=false->l=64)/\x.n<256:=by
 rcases h with⟨_,h2,h3,_⟩ | ⟨h1,h2,h3,h4⟩
 ·exact⟨none,0,0,h3,fun h=>by simp_all,by omega⟩
 ·obtain⟨_,⟨h0,_⟩ | ⟨g,o,cap,h5,_⟩⟩:=h3
  ·omega
  ·exact⟨_,_,cap,h5,fun _=>h4,h2⟩
theorem ybup (v:Value) (E:List Rq) (w:World) (hv:qai w v 3 E.length (qbe E)) (hE:∀ x ∈ E,RqOk w x) (hl:E.length<=100):
  Calls Tryz.prog 175 #[v] w fun e w'=>e=.returned (.int .i64 0)/\Below w.heap.size w w':=by
 obtain⟨p,cp,rfl,HP⟩:=qwu hv
 obtain⟨N,HN⟩:∃ N,Hid (E.length=N):=⟨_,rfl⟩
 have HE:=Lib.hid hE
 rw[HN.out]at hl HP
 rw[HN.out]
 clear hv hE
 have hN2:¬ (100:Int)<(N:Int):=by omega
 go_enter Tryz.func175,Tryz.ntmps175
 go_wp2
 go_loopw [10] (fun i wr=>∃ k:Nat,k<=N/\i=.int .i64 k/\Below w.heap.size w wr) (fun i _=>N - (intOf i).toNat)
 case atStart=>exact⟨0,Nat.zero_le _,rfl,Below.refl _ _⟩
 case round=>
  obtain⟨k,hk,rfl,HB⟩:=hrel
  by_cases hlt:k<N
  ·obtain⟨g,o,rfl,hg,hc⟩:=HP.out (by omega)
   have hkl:k<E.length:=by rw[HN.out];exact hlt
   obtain⟨e0,e1,e2⟩:=qfi E k hkl
   obtain⟨px,lx,cx,hxs,hx64,hxn⟩:=(HE.out E[k] (List.getElem_mem hkl)).shape
   rw[hxs]at e1
   have c0:=(HB.cell (p:=⟨g,o+k*3,none⟩) hg).trans (hc _ _ e0)
   have c1:=(HB.cell (p:=⟨g,o+(k*3+1),none⟩) hg).trans (hc _ _ e1)
   have c2:=(HB.cell (p:=⟨g,o+(k*3+2),none⟩) hg).trans (hc _ _ e2)
   rw[<-Nat.add_assoc]at c1 c2
   obtain⟨xn,Hxn⟩:∃ q,Hid (E[k].n=q):=⟨E[k].n,rfl⟩
   obtain⟨xb,Hxb⟩:∃ q,Hid (E[k].b=q):=⟨E[k].b,rfl⟩
   rw[Hxn.out]at c0 hxn
   rw[Hxb.out]at c2 hx64
   have hlt2:(k:Int)<(N:Int):=by omega
   have hgl:g<wr.heap.size:=Nat.lt_of_lt_of_le hg HB.size
   have hgn:¬ g=wr.heap.size:=by omega
   have HBA:Hid (Below w.heap.size w (wr.alloc (.cells #[.int .i64 (xn:Int),.slice px lx cx,.bool xb] 171))):=HB.alloc HB.size _
   clear hc e0 e1 e2 hxs
   cases xb with
   | true=>
    clear hx64
    go_wp2
    go_roundw
    case rel=>exact⟨k+1,by omega,by go_num,HBA.out⟩
    case measure=>simp[intOf];omega
   | false=>
    have h64:=hx64 rfl
    subst h64
    have b1:decide ((xn:Int)<0)=false:=by rw[decide_eq_false_iff_not];omega
    have b2:decide ((256:Int)<=(xn:Int))=false:=by rw[decide_eq_false_iff_not];omega
    have b3:¬ (256:Int)<=(xn:Int):=by omega
    have b4:¬ 256<=xn:=by omega
    clear hx64
    go_wp2
    go_roundw
    case rel=>exact⟨k+1,by omega,by go_num,HBA.out⟩
    case measure=>simp[intOf];omega
  ·go_wp2
   go_ret
   exact⟨rfl,HB⟩
theorem ybqt (x:Rq) (w:World) (hx:∃ p l c,x.v=.slice p l c):Calls Tryz.prog 177 #[.agg #[.int .i64 (x.n:Int),x.v,.bool x.b]] w fun e w'=>e=.returned (.bool x.b)/\Below w.heap.size w w':=by
 obtain⟨p,l,c,hx⟩:=hx
 rw[hx]
 obtain⟨xn,Hxn⟩:∃ q,Hid (x.n=q):=⟨x.n,rfl⟩
 obtain⟨xb,Hxb⟩:∃ q,Hid (x.b=q):=⟨x.b,rfl⟩
 rw[Hxn.out,Hxb.out]
 go_enter Tryz.func177,Tryz.ntmps177
 go_wp2
 go_ret
 exact⟨rfl,(Below.refl _ _).alloc (Nat.le_refl _) _⟩
def barI (E:List Rq):Int:=match E.findIdx? fun x=>x.b with | some k=>(k:Int) | none=> -1
theorem ybqu (v:Value) (E:List Rq) (w:World) (hv:qai w v 3 E.length (qbe E)) (hE:∀ x ∈ E,RqOk w x) (hl:E.length<=1000):
  Calls Tryz.prog 176 #[v,.func (.func 177) #[] #[]] w fun e w'=>e=.returned (.int .i64 (barI E))/\Below w.heap.size w w':=by
 obtain⟨p,cp,rfl,HP⟩:=qwu hv
 obtain⟨N,HN⟩:∃ N,Hid (E.length=N):=⟨_,rfl⟩
 have HE:=Lib.hid hE
 rw[HN.out]at hl HP
 rw[HN.out]
 clear hv hE
 go_enter Tryz.func176,Tryz.ntmps176
 go_wp2
 go_loopw [8] (fun i wr=>∃ k:Nat,k<=N/\i=.int .i64 k/\Hid (∀ j (hj:j<E.length),j<k->E[j].b=false)/\Below w.heap.size w wr) (fun i _=>N - (intOf i).toNat)
 case atStart=>exact⟨0,Nat.zero_le _,rfl,fun j _ hj=>by omega,Below.refl _ _⟩
 case round=>
  obtain⟨k,hk,rfl,HO,HB⟩:=hrel
  by_cases hlt:k<N
  ·obtain⟨g,o,rfl,hg,hc⟩:=HP.out (by omega)
   have hkl:k<E.length:=by rw[HN.out];exact hlt
   obtain⟨e0,e1,e2⟩:=qfi E k hkl
   obtain⟨px,lx,cx,hxs,_,_⟩:=(HE.out E[k] (List.getElem_mem hkl)).shape
   have HX:=Lib.hid (fun W=>ybqt E[k] W ⟨px,lx,cx,hxs⟩)
   rw[hxs]at e1 HX
   have c0:=(HB.cell (p:=⟨g,o+k*3,none⟩) hg).trans (hc _ _ e0)
   have c1:=(HB.cell (p:=⟨g,o+(k*3+1),none⟩) hg).trans (hc _ _ e1)
   have c2:=(HB.cell (p:=⟨g,o+(k*3+2),none⟩) hg).trans (hc _ _ e2)
   rw[<-Nat.add_assoc]at c1 c2
   obtain⟨xn,Hxn⟩:∃ q,Hid (E[k].n=q):=⟨E[k].n,rfl⟩
   obtain⟨xb,Hxb⟩:∃ q,Hid (E[k].b=q):=⟨E[k].b,rfl⟩
   rw[Hxn.out]at c0 HX
   rw[Hxb.out]at c2 HX
   have hlt2:(k:Int)<(N:Int):=by omega
   clear hc e0 e1 e2 hxs
   go_wp2_with fail
   refine (HX.out _).mono ?_
   cases xb with
   | true=>
    have HF:Hid (barI E=(k:Int)):=by
     show _=_
     unfold barI
     have:E.findIdx? (fun x=>x.b)=some k:=by
      rw[List.findIdx?_eq_some_iff_getElem]
      exact⟨hkl,Hxb.out,fun j hj=>by simpa using HO.out j (by omega) hj⟩
     rw[this]
    rintro e w1 ⟨rfl,hb1⟩
    have hB1:=Below.step HB hb1
    clear hb1
    go_wp2
    go_ret
    rw[HF.out]
    exact⟨rfl,hB1⟩
   | false=>
    have HO2:Hid (∀ j (hj:j<E.length),j<k+1->E[j].b=false):=fun j hj hjk=>by
     by_cases e:j=k
     ·subst e;exact Hxb.out
     ·exact HO.out j hj (by omega)
    rintro e w1 ⟨rfl,hb1⟩
    have hB1:=Below.step HB hb1
    clear hb1
    go_wp2
    go_roundw
    case rel=>exact⟨k+1,by omega,by go_num,HO2,hB1⟩
    case measure=>simp[intOf];omega
  ·have HF:Hid (barI E = -1):=by
    show _=_
    unfold barI
    have:E.findIdx? (fun x=>x.b)=none:=by
     rw[List.findIdx?_eq_none_iff]
     intro x hx
     obtain⟨j,hj,rfl⟩:=List.getElem_of_mem hx
     exact HO.out j hj (by rw[HN.out]at hj;omega)
    rw[this]
   go_wp2
   go_ret
   rw[HF.out]
   exact⟨rfl,HB⟩
structure Jw where
 n:Nat
 v:Value
 D:List Int
def jab (x:Jw):Wr:=(x.n,x.D)
def jec (x:Jw):Nat × Value:=(x.n,x.v)
def qhl (E:List Jw):List Value:=qhk (E.map jec)
theorem qmx (a b:List Jw):qhl (a++b)=qhl a++qhl b:=by unfold qhl;rw[List.map_append,qmf]
theorem qgo (E:List Jw) (k:Nat) (hk:k<E.length):(qhl E)[k*2]? = some (.int .i64 (E[k].n:Int))/\(qhl E)[k*2+1]? = some E[k].v:=by
 have:=que (E.map jec) k (by simpa using hk)
 simpa[qhl,jec]using this
def JwOk (w:World) (x:Jw):Prop:=x.n<256/\qaf w x.v x.D/\x.D.length=64
theorem JwOk.below {w w':World} {x:Jw} (h:JwOk w x) (hb:Below w.heap.size w w'):JwOk w' x:=⟨h.1,qai.below h.2.1 hb,h.2.2⟩
def qjl (w:World) (base:Nat) (x:Jw):Prop:=x.n<256/\x.D.length=64/\∃ g cap cur,x.v=.slice (some ⟨g,0,none⟩) 64 cap/\(base<=g/\64<=cap)/\w.heap[g]? = some (.cells cur 5 (0,0))/\cur.toList.take 64=u8s x.D
theorem qjl.ok {w:World} {base:Nat} {x:Jw} (h:qjl w base x):JwOk w x:=by
 obtain⟨h1,h2,g,cap,cur,h3,_,h5,h6⟩:=h
 refine⟨h1,?_,h2⟩
 rw[h3]
 exact qav h2 h5 h6
theorem qjl.keep {w w':World} {base:Nat} {x:Jw} (h:qjl w base x) (hk:∀ i c,base<=i->w.heap[i]? = some (.cells c 5 (0,0))->w'.heap[i]? = w.heap[i]?):qjl w' base x:=by
 obtain⟨h1,h2,g,cap,cur,h3,h4,h5,h6⟩:=h
 exact⟨h1,h2,g,cap,cur,h3,h4,(hk g cur h4.1 h5).trans h5,h6⟩
theorem qjl.mono {w:World} {base base':Nat} {x:Jw} (h:qjl w base x) (hb:base'<=base):qjl w base' x:=by
 obtain⟨h1,h2,g,cap,cur,h3,h4,h5,h6⟩:=h
 exact⟨h1,h2,g,cap,cur,h3,⟨Nat.le_trans hb h4.1,h4.2⟩,h5,h6⟩
theorem JwOk.shape {w:World} {x:Jw} (h:JwOk w x):∃ p c,x.v=.slice p 64 c:=by
 obtain⟨_,⟨_,⟨h0,_⟩ | ⟨g,o,cap,h5,_⟩⟩,h3⟩:=h
 ·omega
 ·exact⟨_,cap,by rw[h5,h3]⟩
def ybgp (w:World) (v:Value) (E:List Jw):Prop:=qai w v 2 E.length (qhl E)/\∀ x ∈ E,JwOk w x
theorem ybgp.below {w w':World} {v:Value} {E:List Jw} (h:ybgp w v E) (hb:Below w.heap.size w w'):ybgp w' v E:=⟨qai.below h.1 hb,fun x hx=>(h.2 x hx).below hb⟩
theorem qqe {w:World} {v:Value} {E:List Jw} (h:qai w v 2 E.length (qhl E)):∃ p cp,v=.slice p E.length cp/\Hid (0<E.length->∃ g o,p=some ⟨g,o,none⟩/\g<w.heap.size/\∀ (j:Nat) (x:Value),(qhl E)[j]? = some x->w.cell? ⟨g,o+j,none⟩=some x):=by
 obtain⟨_,⟨h0,a0,c0,rfl⟩ | ⟨g,o,cap,rfl,hc⟩⟩:=h
 ·exact⟨a0,c0,by rw[h0],fun h=>by omega⟩
 ·exact⟨_,cap,rfl,fun h0=>⟨g,o,rfl,block_lt_of_cell (hc _ _ (qgo E 0 h0).1),hc⟩⟩
def qeh (w:World) (b B:Nat) (v:Value) (E:List Jw):Prop:=w.ownsRow b 169 2 v E.length (qhl E)/\∀ x ∈ E,qjl w B x
theorem qeh.at {w:World} {b B:Nat} {v:Value} {E:List Jw} (h:qeh w b B v E):ybgp w v E:=⟨qai.of_owns h.1,fun x hx=>(h.2 x hx).ok⟩
theorem qeh.below {w w':World} {b B:Nat} {v:Value} {E:List Jw} (h:qeh w b B v E) (hb:Below w.heap.size w w'):qeh w' b B v E:=
 ⟨qci h.1 fun q hq=>hb.block q (h.1.lt q hq).2,fun x hx=>(h.2 x hx).keep fun i _ _ hi=>hb.block i (qac hi)⟩
theorem ybpl (n:Int) (hn:0<=n/\n<4294967296) (v:Value) (b:List Int) (w:World) (h:qaf w v b) (hl:b.length<=1000000):
  Calls Tryz.prog 150 #[.int .u32 n,v] w fun e w'=>e=.returned (.int .u32 (sumB n b))/\w=w':=by
 obtain⟨N,HN⟩:∃ N,Hid (b.length=N):=⟨_,rfl⟩
 obtain⟨p,cp,hv,HP⟩:∃ p c,v=.slice p N c/\Hid (0<N->∃ g o,p=some ⟨g,o,none⟩/\∀ (j:Nat) (x:Value),(u8s b)[j]? = some x->w.cell? ⟨g,o+j,none⟩=some x):=by
  rw[<-HN.out]
  obtain⟨_,⟨h0,a0,c0,rfl⟩ | ⟨g,o,cap,rfl,hc⟩⟩:=h
  ·exact⟨a0,c0,by rw[h0],fun h=>by omega⟩
  ·exact⟨_,cap,rfl,fun _=>⟨g,o,rfl,hc⟩⟩
 subst hv
 rw[HN.out]at hl
 clear h
 go_enter Tryz.func150,Tryz.ntmps150
 go_wp2
 go_loop [0,9] (fun a i=>∃ (k:Nat) (q:Int),k<=N/\i=.int .i64 k/\a=.int .u32 q/\0<=q/\q<4294967296/\Hid (sumB n (b.take k)=q)) (fun _ i=>N - (intOf i).toNat)
 case atStart=>exact⟨0,n,Nat.zero_le _,rfl,rfl,hn.1,hn.2,rfl⟩
 case round=>
  obtain⟨k,q,hk,rfl,rfl,hq0,hq1,HQ⟩:=hrel
  by_cases hlt:k<N
  ·obtain⟨g,o,rfl,hc⟩:=HP.out (by omega)
   have hkl:k<b.length:=by rw[HN.out];exact hlt
   obtain⟨c,Hc⟩:∃ c,Hid (b[k]=c):=⟨b[k],rfl⟩
   have c0:=hc k _ (qcj b k hkl)
   rw[Hc.out]at c0
   have hs:=qvd q c
   have HS:Hid (sumB n (b.take (k+1))=qlp q c):=by
    show _=_
    rw[<-List.take_append_getElem hkl,ybpk,HQ.out,Hc.out]
   have HS2:=Lib.hid hs
   clear hc hs
   go_wp2
   go_round
   case rel=>exact⟨k+1,qlp q c,by omega,by go_num,rfl,HS2.out.1,HS2.out.2,HS⟩
   case measure=>simp[intOf];omega
  ·have HF:Hid (sumB n b=q):=by
    have:=HQ.out
    rw[List.take_of_length_le (by rw[HN.out];omega)]at this
    exact this
   go_wp2
   go_ret
   rw[HF.out]
   exact⟨rfl,rfl⟩
theorem ybvr (n:Int) (h0:0<=n) (h1:n<4294967296) (w:World):Calls Tryz.prog 105 #[.int .u32 n] w fun e w'=>e=.returned (.slice (some ⟨w.heap.size,0,none⟩) 4 4)/\w'=w.alloc (.cells (u8s (qck n)).toArray 5):=by
 go_enter Tryz.func105,Tryz.ntmps105
 go_wp2
 go_ret
 exact⟨rfl,by simp[u8s,qck]⟩
theorem qwp (a b c d:Int) (g o m cp:Nat) (hm:4<=m) (w:World) (c0:w.cell? ⟨g,o,none⟩=some (.int .u8 a)) (c1:w.cell? ⟨g,o+1,none⟩=some (.int .u8 b)) (c2:w.cell? ⟨g,o+2,none⟩=some (.int .u8 c)) (c3:w.cell? ⟨g,o+3,none⟩=some (.int .u8 d)):
  Calls Tryz.prog 154 #[.slice (some ⟨g,o,none⟩) m cp] w fun e w'=>e=.returned (.int .u32 (rdB a b c d))/\Below w.heap.size w w':=by
 have k0:0<m:=by omega
 have k1:1<m:=by omega
 have k2:2<m:=by omega
 have k3:3<m:=by omega
 go_enter Tryz.func154,Tryz.ntmps154
 go_wp2
 go_quiet (fail)
 go_wp2
 go_ret
 exact⟨rfl,⟨rfl,rfl,rfl,Nat.le_refl _,fun _ _=>rfl⟩⟩
theorem ybgd (v:Value) (E:List Jw) (w:World) (h:ybgp w v E) (hl:E.length<=1000):
  Calls Tryz.prog 106 #[v] w fun e w'=>e=.returned (.int .u32 (sumW (E.map jab)))/\Below w.heap.size w w':=by
 have HE:=Lib.hid h.2
 obtain⟨p,cp,rfl,HP⟩:=qqe h.1
 obtain⟨N,HN⟩:∃ N,Hid (E.length=N):=⟨_,rfl⟩
 rw[HN.out]at HP hl
 rw[HN.out]
 clear h
 go_enter Tryz.func106,Tryz.ntmps106
 go_wp2
 go_loopw [3,8] (fun a i wr=>∃ (k:Nat) (q:Int),k<=N/\i=.int .i64 k/\a=.int .u32 q/\0<=q/\q<4294967296/\Hid (sumW ((E.take k).map jab)=q)/\Below w.heap.size w wr) (fun _ i _=>N - (intOf i).toNat)
 case atStart=>exact⟨0,2166136261,Nat.zero_le _,rfl,rfl,by omega,by omega,rfl,Below.refl _ _⟩
 case round=>
  obtain⟨k,q,hk,rfl,rfl,hq0,hq1,HQ,HB⟩:=hrel
  by_cases hlt:k<N
  ·obtain⟨g,o,rfl,hg,hc⟩:=HP.out (by omega)
   have hkl:k<E.length:=by rw[HN.out];exact hlt
   obtain⟨e0,e1⟩:=qgo E k hkl
   have hok:=HE.out E[k] (List.getElem_mem hkl)
   have hjs:sumW ((E.take (k+1)).map jab)=sumB (sumB q [(E[k].n:Int)]) E[k].D:=by
    rw[<-List.take_append_getElem hkl,List.map_append]
    show sumW (_++[jab E[k]])=_
    rw[ybaf,HQ.out];rfl
   generalize E[k]=x at e0 e1 hok hjs
   obtain⟨xn,xv,xD⟩:=x
   obtain⟨px,cx,hxs⟩:=hok.shape
   dsimp only at hxs e0 e1 hjs
   subst hxs
   have c0:=(HB.cell (p:=⟨g,o+k*2,none⟩) hg).trans (hc _ _ e0)
   have c1:=(HB.cell (p:=⟨g,o+(k*2+1),none⟩) hg).trans (hc _ _ e1)
   rw[<-Nat.add_assoc]at c1
   have hxn:xn<256:=hok.1
   have hlt2:(k:Int)<(N:Int):=by omega
   have hgl:g<wr.heap.size:=Nat.lt_of_lt_of_le hg HB.size
   have hgn:¬ g=wr.heap.size:=by omega
   have hs1:=qxa ⟨hq0,hq1⟩ [(xn:Int)]
   obtain⟨s1,HS1⟩:∃ s,Hid (sumB q [(xn:Int)]=s):=⟨_,rfl⟩
   rw[HS1.out]at hjs hs1
   have hs2:=qxa hs1 xD
   have HSX:=Lib.hid hjs
   have HS2:=Lib.hid hs2
   have hbA:Below wr.heap.size wr (wr.alloc (.cells #[.int .i64 (xn:Int),.slice px 64 cx] 169)):=(Below.refl _ _).alloc (Nat.le_refl _) _
   have hbB:Below wr.heap.size wr ((wr.alloc (.cells #[.int .i64 (xn:Int),.slice px 64 cx] 169)).alloc (.cells (u8s [(xn:Int)]).toArray 5)):=hbA.alloc (by simp) _
   have HBB:Hid (Below w.heap.size w ((wr.alloc (.cells #[.int .i64 (xn:Int),.slice px 64 cx] 169)).alloc (.cells (u8s [(xn:Int)]).toArray 5))):=Below.step HB hbB
   have hnb:=heap_alloc_new (wr.alloc (.cells #[.int .i64 (xn:Int),.slice px 64 cx] 169)) (.cells (u8s [(xn:Int)]).toArray 5)
   rw[show (wr.alloc (.cells #[.int .i64 (xn:Int),.slice px 64 cx] 169)).heap.size=wr.heap.size+1 by simp]at hnb
   have HC1:=Lib.hid (ybpl q ⟨hq0,hq1⟩ (.slice (some ⟨wr.heap.size+1,0,none⟩) 1 1) [(xn:Int)] _ (qav (n:=1) rfl hnb (by simp[u8s])) (by simp))
   rw[HS1.out]at HC1
   have HC2:=Lib.hid (ybpl s1 hs1 (.slice px 64 cx) xD ((wr.alloc (.cells #[.int .i64 (xn:Int),.slice px 64 cx] 169)).alloc (.cells (u8s [(xn:Int)]).toArray 5)) (qai.below hok.2.1 HBB.out) (by rw[hok.2.2];omega))
   clear hc e0 e1 hok hjs hs1 hs2 hbA hbB hnb
   go_wp2_with fail
   refine HC1.out.mono ?_
   rintro e w' ⟨rfl,rfl⟩
   go_wp2_with fail
   refine HC2.out.mono ?_
   rintro e w' ⟨rfl,rfl⟩
   go_wp2
   go_roundw
   case rel=>exact⟨k+1,sumB s1 xD,by omega,by go_num,rfl,HS2.out.1,HS2.out.2,HSX,HBB.out⟩
   case measure=>simp[intOf];omega
  ·have HF:Hid (sumW (E.map jab)=q):=by
    have:=HQ.out
    rw[List.take_of_length_le (by rw[HN.out];omega)]at this
    exact this
   go_wp2
   go_ret
   rw[HF.out]
   exact⟨rfl,HB⟩
def hB (D:List Int) (j:Nat):Int:=D.getD j 0
def qfy (N:List Int):Int:=rdB (hB (sec N 5) 1) (hB (sec N 5) 2) (hB (sec N 5) 3) (hB (sec N 5) 4)
def qku (N:List Int):Nat:=(hB (sec N 5) 5).toNat
def qsu (N:List Int) (n:Nat):List Wr:=(List.range n).map fun i=>((hB (sec N 5) (6+i)).toNat,sec N (6+i))
def qpw (N:List Int):Bool:=(hB (sec N 5) 0 == 74) && decide (1<=qku N) && decide (qku N<=30)
def qwv (N:List Int):Bool:=(hB (sec N (6+qku N)) 0 == 67) && (rdB (hB (sec N (6+qku N)) 1) (hB (sec N (6+qku N)) 2) (hB (sec N (6+qku N)) 3) (hB (sec N (6+qku N)) 4) == qfy N) &&
 (rdB (hB (sec N (6+qku N)) 5) (hB (sec N (6+qku N)) 6) (hB (sec N (6+qku N)) 7) (hB (sec N (6+qku N)) 8) == sumW (qsu N (qku N)))
theorem ybjk (N:List Int) (n:Nat):qsu N (n+1)=qsu N n++[((hB (sec N 5) (6+n)).toNat,sec N (6+n))]:=by unfold qsu;rw[List.range_succ,List.map_append];rfl
theorem qsv (N:List Int) (n:Nat):(qsu N n).length=n:=by unfold qsu;simp
def qco (D:List Int):Prop:=∀ x ∈ D,0<=x/\x<=255
theorem qco.get {D:List Int} (h:qco D) (j:Nat):0<=hB D j/\hB D j<=255:=by
 unfold hB
 rw[List.getD_eq_getElem?_getD]
 cases hx:D[j]? with
 | none=>simp
 | some x=>exact h x (List.mem_of_getElem? hx)
theorem qco.sec {D:List Int} (h:qco D) (n:Nat):qco (sec D n):=fun x hx=>h x (List.mem_of_mem_drop (List.mem_of_mem_take hx))
theorem qll {D:List Int} {w w':World} {v:Value} (h:qes D w v w') (hl:D.length=64):∃ g cap cur,v=.slice (some ⟨g,0,none⟩) 64 cap/\64<=cap/\w.heap.size<=g/\g<w'.heap.size/\(∀ j,j<64->w'.cell? ⟨g,j,none⟩=some (.int .u8 (hB D j)))/\w'.heap[g]? = some (.cells cur 5 (0,0))/\cur.toList.take 64=u8s D/\Below w.heap.size w w':=by
 obtain⟨g,cap,cur,hv,⟨h1,h2⟩,h3,h4,h5⟩:=h
 rw[hl]at hv h2 h4
 refine⟨g,cap,cur,hv,h2,h1,qac h3,fun j hj=>?_,h3,h4,h5⟩
 rw[cell_of_row _ _ _ _ _ _ h3]
 have h6:(u8s D)[j]? = some (.int .u8 (D[j]'(by omega))):=qcj D j (by omega)
 rw[<-h4,List.getElem?_take,if_pos hj]at h6
 unfold hB
 rw[List.getD_eq_getElem?_getD,List.getElem?_eq_getElem (by omega)]
 simpa using h6
theorem jwInfo : (Tryz.prog.info? 169).map (fun i=>(i.zero,i.size,i.bytes))=some (some (.agg #[.int .i64 0,.slice none 0 0]),2,32):=by kernel_rfl
theorem jwT : Tryz.prog.underlying 123=some (.slice 169):=by kernel_rfl
theorem ybor {w:World} {d:Value} {st:Dk} {F:Nat->Prop} (h:qaw w d st 80 F):Calls Tryz.prog 153 #[d,.int .i64 5,.int .i64 32] w fun e w'=>e=.returned (.int .i64 0)/\w=w':=by
 have HS:=Lib.hid (qfz h)
 obtain⟨a,rfl⟩:=h.ptr
 clear h
 go_enter Tryz.func153,Tryz.ntmps153
 go_wp2_with fail
 refine HS.out.mono ?_
 rintro e w' ⟨rfl,rfl⟩
 go_wp2
 go_ret
 exact⟨rfl,rfl⟩
def ybax (N:List Int) (w:World) (e:Ending) (w':World):Prop:=
 (qpw N=false/\e=.returned (.tuple #[.slice none 0 0,.int .u32 0,.bool false,.int .i64 0])/\Below w.heap.size w w') \/
 (qpw N=true/\qwv N=false/\e=.returned (.tuple #[.slice none 0 0,.int .u32 (qfy N),.bool false,.int .i64 0])/\Below w.heap.size w w') \/
 (qpw N=true/\qwv N=true/\∃ v E,e=.returned (.tuple #[v,.int .u32 (qfy N),.bool true,.int .i64 0])/\E.map jab=qsu N (qku N)/\qeh w' w.heap.size w.heap.size v E/\Below w.heap.size w w')
theorem ybur {w:World} {a:Addr} {st:Dk} {F:Nat->Prop} (h:qaw w (.pointer (some a)) st 80 F) (hN:qco st.N):
  Calls Tryz.prog 110 #[.pointer (some a),.int .i64 5,.int .i64 32] w (ybax st.N w):=by
 unfold ybax
 have HD:=Lib.hid h
 have hlN:=h.lens.2
 have hs64:∀ n,n<80->(sec st.N n).length=64:=fun n hn=>qhu hlN hn
 have HS64:=Lib.hid hs64
 have HBY:=Lib.hid (fun n j=>(hN.sec n).get j)
 have HRG:=Lib.hid (ybor h)
 have HR2:=Lib.hid (qka h 5 (by omega))
 clear hs64 hlN h
 go_enter Tryz.func110,Tryz.ntmps110
 go_wp2_with fail
 refine HRG.out.mono ?_
 rintro e w' ⟨rfl,rfl⟩
 go_wp2_with fail
 refine HR2.out.mono ?_
 rintro e w1 ⟨v1,rfl,hv1⟩
 obtain⟨g,cap,_,rfl,hcap,hg0,hg1,hc,_,_,hb1⟩:=qll hv1 (HS64.out 5 (by omega))
 have HC:=Lib.hid hc
 have HB1:=Lib.hid hb1
 obtain⟨x0,Hx0⟩:∃ x,Hid (hB (sec st.N 5) 0=x):=⟨_,rfl⟩
 obtain⟨n,Hn⟩:∃ n,Hid (qku st.N=n):=⟨_,rfl⟩
 have hn5:hB (sec st.N 5) 5=(n:Int):=by
  have:=HBY.out 5 5
  rw[<-Hn.out]
  unfold qku
  omega
 have c0:=hc 0 (by omega)
 have c5:=hc 5 (by omega)
 rw[Hx0.out]at c0
 rw[hn5]at c5
 have hn255:(n:Int)<=255:=by have:=HBY.out 5 5;omega
 have HHD:Hid (qpw st.N=((x0 == 74) && decide (1<=n) && decide (n<=30))):=by show _=_;unfold qpw;rw[Hx0.out,Hn.out]
 clear hc hv1 hb1 hn5 HR2 HRG
 by_cases hx0:x0=74
 case neg=>
  have b1:(x0 == 74)=false:=by simpa using hx0
  have b2:(x0 != 74)=true:=by simp[bne,b1]
  have HF:Hid (qpw st.N=false):=by show _=_;rw[HHD.out,b1];rfl
  clear hx0
  go_wp2
  exact bodyPost_ret (v:=.tuple #[.slice none 0 0,.int .u32 0,.bool false,.int .i64 0]) (by simp[results,Tryz.results110,go_sem]) rfl (Or.inl ⟨HF.out,rfl,HB1.out⟩)
 have b1:(x0 == 74)=true:=by simpa using hx0
 have b2:(x0 != 74)=false:=by simp[bne,b1]
 clear hx0
 by_cases hn1:1<=n
 case neg=>
  have d1:decide (n<1)=true:=by rw[decide_eq_true_iff];omega
  have hn0:n=0:=by omega
  subst hn0
  have HF:Hid (qpw st.N=false):=by show _=_;rw[HHD.out,b1];rfl
  go_wp2
  exact bodyPost_ret (v:=.tuple #[.slice none 0 0,.int .u32 0,.bool false,.int .i64 0]) (by simp[results,Tryz.results110,go_sem]) rfl (Or.inl ⟨HF.out,rfl,HB1.out⟩)
 by_cases hn4:n<=30
 case neg=>
  have d1:decide ((n:Int)<1)=false:=by rw[decide_eq_false_iff_not];omega
  have d2:decide ((30:Int)<(n:Int))=true:=by rw[decide_eq_true_iff];omega
  have d3:decide (n<1)=false:=by rw[decide_eq_false_iff_not];omega
  have d4:decide (30<n)=true:=by rw[decide_eq_true_iff];omega
  have HF:Hid (qpw st.N=false):=by show _=_;rw[HHD.out,decide_eq_false hn4];simp
  go_wp2
  exact bodyPost_ret (v:=.tuple #[.slice none 0 0,.int .u32 0,.bool false,.int .i64 0]) (by simp[results,Tryz.results110,go_sem]) rfl (Or.inl ⟨HF.out,rfl,HB1.out⟩)
 have HF:Hid (qpw st.N=true):=by show _=_;rw[HHD.out,b1,decide_eq_true hn1,decide_eq_true hn4];rfl
 have d1:decide ((n:Int)<1)=false:=by rw[decide_eq_false_iff_not];omega
 have d2:decide ((30:Int)<(n:Int))=false:=by rw[decide_eq_false_iff_not];omega
 have d3:decide (n<1)=false:=by rw[decide_eq_false_iff_not];omega
 have d4:decide (30<n)=false:=by rw[decide_eq_false_iff_not];omega
 have hcap1:¬ cap=1:=by omega
 have hcap1':¬ (1:Nat)=cap:=by omega
 have hcap2:1<=cap:=by omega
 obtain⟨sq,Hsq⟩:∃ s,Hid (qfy st.N=s):=⟨_,rfl⟩
 have HRD:=Lib.hid (qwp (hB (sec st.N 5) 1) (hB (sec st.N 5) 2) (hB (sec st.N 5) 3) (hB (sec st.N 5) 4) g 1 63 (cap - 1) (by omega) w1 (HC.out 1 (by omega)) (HC.out 2 (by omega)) (HC.out 3 (by omega)) (HC.out 4 (by omega)))
 rw[show rdB (hB (sec st.N 5) 1) (hB (sec st.N 5) 2) (hB (sec st.N 5) 3) (hB (sec st.N 5) 4)=sq from Hsq.out]at HRD
 go_wp2_with fail
 refine HRD.out.mono ?_
 rintro e w2 ⟨rfl,hb2⟩
 have HB2:Hid (Below w.heap.size w w2):=Below.step HB1.out hb2
 have HC2:Hid (∀ j,j<64->w2.cell? ⟨g,j,none⟩=some (.int .u8 (hB (sec st.N 5) j))):=fun j hj=>(hb2.cell (p:=⟨g,j,none⟩) hg1).trans (HC.out j hj)
 have hg2:g<w2.heap.size:=Nat.lt_of_lt_of_le hg1 hb2.size
 obtain⟨i0,hi0,hz0,hz1,hz2⟩:=info_parts jwInfo
 have HI0:=Lib.hid hi0
 have HIZ:=Lib.hid hz0
 have HI1:=Lib.hid hz1
 have HI2:=Lib.hid hz2
 clear hb2 c0 c5 d1 d2 d3 d4 HC hi0 hz0 hz1 hz2 b1 b2
 go_wp2
 go_loopw [15,56] (fun l i wr=>∃ (k:Nat) (E:List Jw),k<=n/\i=.int .i64 k/\Hid (E.map jab=qsu st.N k)/\Hid (qeh wr w2.heap.size w.heap.size l E)/\Hid (Below w2.heap.size w2 wr)) (fun _ i _=>n - (intOf i).toNat)
 case atStart=>exact⟨0,[],Nat.zero_le _,rfl,rfl,⟨World.ownsRow_nil _ _ _ _,fun x hx=>by simp at hx⟩,Below.refl _ _⟩
 case round=>
  obtain⟨k,E,hk,rfl,HEK,HJ,HB⟩:=hrel
  by_cases hlt:k<n
  ·have HDR:=Lib.hid (HD.out.below (Below.step HB2.out HB.out))
   have HRK:=Lib.hid (qka HDR.out (6+k) (by omega))
   rw[show ((6+k:Nat):Int)=6+(k:Int) by omega]at HRK
   have hlt2:(k:Int)<(n:Int):=by omega
   go_wp2_with fail
   refine HRK.out.mono ?_
   rintro e w3 ⟨v3,rfl,hv3⟩
   obtain⟨gd,capd,curd,rfl,hcapd,hgd0,hgd1,_,hhd,htd,hb3⟩:=qll hv3 (HS64.out (6+k) (by omega))
   have HJ3:=Lib.hid (HJ.out.below hb3)
   have HB3:Hid (Below w2.heap.size w2 w3):=HB.out.trans (hb3.mono HB.out.size)
   have hh6:=HBY.out 5 (6+k)
   obtain⟨y,Hy⟩:∃ y:Nat,Hid (hB (sec st.N 5) (6+k)=(y:Int)):=⟨(hB (sec st.N 5) (6+k)).toNat,by show _=_;omega⟩
   have hy255:(y:Int)<=255:=by rw[<-Hy.out];exact hh6.2
   have c6:w3.cell? ⟨g,6+k,none⟩=some (.int .u8 (y:Int)):=by
    rw[<-Hy.out]
    exact (HB3.out.cell (p:=⟨g,6+k,none⟩) hg2).trans (HC2.out (6+k) (by omega))
   have HJN:Hid (qjl (w3.alloc (.cells #[.int .i64 (y:Int),.slice (some ⟨gd,0,none⟩) 64 capd] 169)) w.heap.size ⟨y,.slice (some ⟨gd,0,none⟩) 64 capd,sec st.N (6+k)⟩):=
    ⟨by show y<256;omega,HS64.out (6+k) (by omega),gd,capd,curd,rfl,⟨Nat.le_trans HB2.out.size (Nat.le_trans HB.out.size hgd0),hcapd⟩,qad hhd _,htd⟩
   have HEK2:Hid ((E++[(⟨y,.slice (some ⟨gd,0,none⟩) 64 capd,sec st.N (6+k)⟩:Jw)]).map jab=qsu st.N (k+1)):=by
    show _=_
    rw[List.map_append,HEK.out,ybjk,Hy.out]
    rfl
   have hEl:E.length=k:=by
    have:=congrArg List.length HEK.out
    rwa [List.length_map,qsv]at this
   have HEL:=Lib.hid hEl
   have hsz:=HB3.out.size
   have hk4:k<30:=by omega
   have e9:6+k<64:=by omega
   have HNB:Hid ((w3.alloc (.cells #[.int .i64 (y:Int),.slice (some ⟨gd,0,none⟩) 64 capd] 169)).heap[w3.heap.size]? = some (.cells #[.int .i64 (y:Int),.slice (some ⟨gd,0,none⟩) 64 capd] 169 (0,0))):=heap_alloc_new _ _
   have HJA:=Lib.hid (HJ3.out.below ((Below.refl _ _).alloc (Nat.le_refl _) (.cells #[.int .i64 (y:Int),.slice (some ⟨gd,0,none⟩) 64 capd] 169)))
   clear hh6 hb3 hv3 hhd htd hgd0 hEl HDR HRK
   go_wp2_with (at_builtin;refine wpList_append_own _ rfl _ _ 123 rfl w2.heap.size 169 i0 (.agg #[.int .i64 0,.slice none 0 0]) 2 32 jwT HI0.out HIZ.out HI1.out HI2.out rfl (by decide) _ _ _ rfl HJA.out.1 ⟨_,0,none⟩ 1 1 [.int .i64 (y:Int),.slice (some ⟨gd,0,none⟩) 64 capd] rfl rfl (World.news_of_block (cs:=#[.int .i64 (y:Int),.slice (some ⟨gd,0,none⟩) 64 capd]) (t:=169) (fr:=(0,0)) HNB.out) (by simp[Value.oneCell']) (by rw[HEL.out];unfold maxLen;omega) (by rw[HEL.out];omega) (by simp;omega) ?_;intro v5 w5 hown hgrow _)
   have HJ5:Hid (qeh w5 w2.heap.size w.heap.size v5 (E++[(⟨y,.slice (some ⟨gd,0,none⟩) 64 capd,sec st.N (6+k)⟩:Jw)])):=by
    have hkeep:∀ (i:Nat) (c:Array Value),(w3.alloc (.cells #[.int .i64 (y:Int),.slice (some ⟨gd,0,none⟩) 64 capd] 169)).heap[i]? = some (.cells c 5 (0,0))->w5.heap[i]? = (w3.alloc (.cells #[.int .i64 (y:Int),.slice (some ⟨gd,0,none⟩) 64 capd] 169)).heap[i]? :=fun i c hi=>hgrow.block i (qac hi) (fun e=>qds HJA.out.1 hi (by decide) e.symm)
    refine⟨by rw[List.length_append,qmx];exact hown,fun x hx=>?_⟩
    rcases List.mem_append.1 hx with hx | hx
    ·exact (HJA.out.2 x hx).keep fun i c _ hi=>hkeep i c hi
    ·rw[List.mem_singleton]at hx
     subst hx
     exact HJN.out.keep fun i c _ hi=>hkeep i c hi
   have HB5:Hid (Below w2.heap.size w2 w5):=Below.grown (HB3.out.alloc hsz _) hgrow (by simp;omega) (fun q hq=>(HJ.out.1.lt q hq).1)
   clear hown hgrow
   go_wp2
   go_roundw
   case rel=>exact⟨k+1,E++[(⟨y,.slice (some ⟨gd,0,none⟩) 64 capd,sec st.N (6+k)⟩:Jw)],by omega,by go_num,HEK2,HJ5,HB5⟩
   case measure=>simp[intOf];omega
  ·obtain rfl:k=n:=by omega
   have HDR:=Lib.hid (HD.out.below (Below.step HB2.out HB.out))
   have HRT:=Lib.hid (qka HDR.out (6+k) (by omega))
   rw[show ((6+k:Nat):Int)=6+(k:Int) by omega]at HRT
   have hBW:Below w.heap.size w wr:=HB2.out.trans (HB.out.mono HB2.out.size)
   have HBW:=Lib.hid hBW
   clear hBW HDR
   go_wp2_with fail
   refine HRT.out.mono ?_
   rintro e w3 ⟨v3,rfl,hv3⟩
   obtain⟨gt,capt,_,rfl,hcapt,hgt0,hgt1,hct,_,_,hb3⟩:=qll hv3 (HS64.out (6+k) (by omega))
   have HB3:=Lib.hid (Below.step HBW.out hb3)
   have HJ3:=Lib.hid (HJ.out.below hb3)
   have HCT:=Lib.hid hct
   have ct0:=hct 0 (by omega)
   obtain⟨t0,Ht0⟩:∃ t,Hid (hB (sec st.N (6+k)) 0=t):=⟨_,rfl⟩
   rw[Ht0.out]at ct0
   obtain⟨ts,Hts⟩:∃ t,Hid (rdB (hB (sec st.N (6+k)) 1) (hB (sec st.N (6+k)) 2) (hB (sec st.N (6+k)) 3) (hB (sec st.N (6+k)) 4)=t):=⟨_,rfl⟩
   obtain⟨tz,Htz⟩:∃ t,Hid (rdB (hB (sec st.N (6+k)) 5) (hB (sec st.N (6+k)) 6) (hB (sec st.N (6+k)) 7) (hB (sec st.N (6+k)) 8)=t):=⟨_,rfl⟩
   obtain⟨sw,Hsw⟩:∃ t,Hid (sumW (qsu st.N k)=t):=⟨_,rfl⟩
   have HTT:Hid (qwv st.N=((t0 == 67) && (ts == sq) && (tz == sw))):=by
    show _=_
    unfold qwv
    rw[Hn.out,Ht0.out,Hts.out,Htz.out,Hsw.out,Hsq.out]
   have hEl:E.length=k:=by
    have:=congrArg List.length HEK.out
    rwa [List.length_map,qsv]at this
   clear hct hv3 hb3 HRT
   by_cases hq0:t0=67
   case neg=>
    have b1:(t0 == 67)=false:=by simpa using hq0
    have b2:(t0 != 67)=true:=by simp[bne,b1]
    have HTF:Hid (qwv st.N=false):=by show _=_;rw[HTT.out,b1];rfl
    clear hq0
    go_wp2
    exact bodyPost_ret (v:=.tuple #[.slice none 0 0,.int .u32 (qfy st.N),.bool false,.int .i64 0]) (by simp[results,Tryz.results110,go_sem,Hsq.out]) rfl (Or.inr (Or.inl ⟨HF.out,HTF.out,rfl,HB3.out⟩))
   have b1:(t0 == 67)=true:=by simpa using hq0
   have b2:(t0 != 67)=false:=by simp[bne,b1]
   have ht1:¬ capt=1:=by omega
   have ht2:1<=capt:=by omega
   have ht5:¬ capt=5:=by omega
   have ht6:5<=capt:=by omega
   have HRD2:=Lib.hid (qwp (hB (sec st.N (6+k)) 1) (hB (sec st.N (6+k)) 2) (hB (sec st.N (6+k)) 3) (hB (sec st.N (6+k)) 4) gt 1 63 (capt - 1) (by omega) w3 (HCT.out 1 (by omega)) (HCT.out 2 (by omega)) (HCT.out 3 (by omega)) (HCT.out 4 (by omega)))
   rw[Hts.out]at HRD2
   clear hq0
   go_wp2_with fail
   refine HRD2.out.mono ?_
   rintro e w4 ⟨rfl,hb4⟩
   have HB4:=Lib.hid (Below.step HB3.out hb4)
   have HJ4:=Lib.hid (HJ3.out.below hb4)
   have HCT4:Hid (∀ j,j<64->w4.cell? ⟨gt,j,none⟩=some (.int .u8 (hB (sec st.N (6+k)) j))):=fun j hj=>(hb4.cell (p:=⟨gt,j,none⟩) hgt1).trans (HCT.out j hj)
   clear hb4 ct0
   by_cases hq1:ts=sq
   case neg=>
    have b3:(ts == sq)=false:=by simpa using hq1
    have b4:(ts != sq)=true:=by simp[bne,b3]
    have HTF:Hid (qwv st.N=false):=by show _=_;rw[HTT.out,b3];simp
    clear hq1
    go_wp2
    exact bodyPost_ret (v:=.tuple #[.slice none 0 0,.int .u32 (qfy st.N),.bool false,.int .i64 0]) (by simp[results,Tryz.results110,go_sem,Hsq.out]) rfl (Or.inr (Or.inl ⟨HF.out,HTF.out,rfl,HB4.out⟩))
   have b3:(ts == sq)=true:=by simpa using hq1
   have b4:(ts != sq)=false:=by simp[bne,b3]
   have HRD3:=Lib.hid (qwp (hB (sec st.N (6+k)) 5) (hB (sec st.N (6+k)) 6) (hB (sec st.N (6+k)) 7) (hB (sec st.N (6+k)) 8) gt 5 59 (capt - 5) (by omega) w4 (HCT4.out 5 (by omega)) (HCT4.out 6 (by omega)) (HCT4.out 7 (by omega)) (HCT4.out 8 (by omega)))
   rw[Htz.out]at HRD3
   clear hq1
   go_wp2_with fail
   refine HRD3.out.mono ?_
   rintro e w5 ⟨rfl,hb5⟩
   have HB5:=Lib.hid (Below.step HB4.out hb5)
   have HJ5:=Lib.hid (HJ4.out.below hb5)
   have HSW:=Lib.hid (ybgd u15 E w5 HJ5.out.at (by omega))
   rw[HEK.out,Hsw.out]at HSW
   clear hb5
   go_wp2_with fail
   refine HSW.out.mono ?_
   rintro e w6 ⟨rfl,hb6⟩
   have HB6:=Lib.hid (Below.step HB5.out hb6)
   have HJ6:=Lib.hid (HJ5.out.below hb6)
   clear hb6
   by_cases hq2:tz=sw
   case neg=>
    have b5:(tz == sw)=false:=by simpa using hq2
    have b6:(tz != sw)=true:=by simp[bne,b5]
    have HTF:Hid (qwv st.N=false):=by show _=_;rw[HTT.out,b5];simp
    clear hq2
    go_wp2
    exact bodyPost_ret (v:=.tuple #[.slice none 0 0,.int .u32 (qfy st.N),.bool false,.int .i64 0]) (by simp[results,Tryz.results110,go_sem,Hsq.out]) rfl (Or.inr (Or.inl ⟨HF.out,HTF.out,rfl,HB6.out⟩))
   have b5:(tz == sw)=true:=by simpa using hq2
   have b6:(tz != sw)=false:=by simp[bne,b5]
   have HTF:Hid (qwv st.N=true):=by show _=_;rw[HTT.out,b1,b3,b5];rfl
   clear hq2
   go_wp2
   refine bodyPost_ret (v:=.tuple #[u15,.int .u32 (qfy st.N),.bool true,.int .i64 0]) (by simp[results,Tryz.results110,go_sem,Hsq.out]) rfl (Or.inr (Or.inr ⟨HF.out,HTF.out,u15,E,rfl,by rw[Hn.out];exact HEK.out,?_,HB6.out⟩))
   obtain⟨o1,o2⟩:=HJ6.out
   refine⟨?_,o2⟩
   obtain⟨e1,h | ⟨g',cap',cur',hv',hg',r'⟩⟩:=o1
   ·exact⟨e1,Or.inl h⟩
   ·exact⟨e1,Or.inr ⟨g',cap',cur',hv',Nat.le_trans HB2.out.size hg',r'⟩⟩
end Go.Proofs.YtpoglnpjadmbpaaGreatDoor
