/- Part of the proofs of FsLinks: the texts RqRow, LiftOrder. -/
import Derived.Test.YtpoglnpjadmbpaaGreatDoorKA17
import Derived.Laws.AppendOwnNone
set_option maxHeartbeats 16000000
set_option maxRecDepth 100000
namespace Go.Proofs.YtpoglnpjadmbpaaGreatDoor
open Go.RowKit
def qge (w:World) (v:Value) (E:List Rq):Prop:=∃ a cap,v=.slice a E.length cap/\E.length<=cap/\cap<=maxLen/\(0<E.length->∃ g o,a=some ⟨g,o,none⟩/\∀ (j:Nat) (x:Value),(qbe E)[j]? = some x->w.cell? ⟨g,o+j,none⟩=some x)
theorem qge.row {w:World} {v:Value} {E:List Rq} (h:qge w v E):qai w v 3 E.length (qbe E):=by
 obtain⟨a,cap,rfl,h1,h2,h3⟩:=h
 refine⟨qik E,?_⟩
 rcases Nat.eq_zero_or_pos E.length with e | e
 ·exact Or.inl ⟨e,a,cap,by rw[e]⟩
 ·obtain⟨g,o,rfl,hc⟩:=h3 e
  exact Or.inr ⟨g,o,cap,rfl,hc⟩
theorem qge.below {w w':World} {v:Value} {E:List Rq} (h:qge w v E) (hb:Below w.heap.size w w'):qge w' v E:=by
 obtain⟨a,cap,rfl,h1,h2,h3⟩:=h
 refine⟨a,cap,rfl,h1,h2,fun h0=>?_⟩
 obtain⟨g,o,rfl,hc⟩:=h3 h0
 exact⟨g,o,rfl,fun j x hx=>(hb.cell (p:=⟨g,o+j,none⟩) (block_lt_of_cell (hc j x hx))).trans (hc j x hx)⟩
theorem qge.of_owns {w:World} {base:Nat} {v:Value} {E:List Rq} (h:w.ownsRow base 171 3 v E.length (qbe E)):qge w v E:=by
 obtain⟨q,cap,hv,hq⟩:=qat h
 obtain⟨_,⟨rfl,h0⟩ | ⟨g,cap',cur,rfl,hg,hh,hc,hm,_⟩⟩:=h
 ·exact⟨none,0,by rw[h0],by omega,by unfold maxLen;omega,fun h=>by omega⟩
 ·refine⟨_,cap',rfl,hc,hm,fun h0=>?_⟩
  obtain⟨g',e,_,hc2⟩:=hq h0
  injection hv with e1 _ _
  rw[e]at e1
  injection e1 with e1
  injection e1 with e1 _ _
  subst e1
  exact⟨g,0,rfl,fun j x hx=>by rw[Nat.zero_add];exact hc2 j x hx⟩
theorem qge.take {w:World} {a:Option Addr} {n cap:Nat} {E:List Rq} (h:qge w (.slice a n cap) E) {k:Nat} (hk:k<=n):qge w (.slice a k cap) (E.take k):=by
 obtain⟨a',cap',hv,h1,h2,h3⟩:=h
 cases hv
 have hl:(E.take k).length=k:=by rw[List.length_take];omega
 refine⟨a,cap,by rw[hl],by rw[hl];omega,h2,fun h0=>?_⟩
 rw[hl]at h0
 obtain⟨g,o,rfl,hc⟩:=h3 (by omega)
 refine⟨g,o,rfl,fun j x hx=>hc j x ?_⟩
 rw[<-(qpi E k).1,List.getElem?_take]at hx
 split at hx
 ·exact hx
 ·cases hx
theorem qge.drop {w:World} {g o n cap:Nat} {E:List Rq} (h:qge w (.slice (some ⟨g,o,none⟩) n cap) E) {k:Nat} (hk:k<=n):qge w (.slice (some ⟨g,o+k*3,none⟩) (n - k) (cap - k)) (E.drop k):=by
 obtain⟨a',cap',hv,h1,h2,h3⟩:=h
 cases hv
 have hl:(E.drop k).length=E.length - k:=List.length_drop
 refine⟨_,_,by rw[hl],by rw[hl];omega,by omega,fun h0=>?_⟩
 rw[hl]at h0
 obtain⟨g',o',e,hc⟩:=h3 (by omega)
 cases e
 refine⟨g,_,rfl,fun j x hx=>?_⟩
 rw[<-(qpi E k).2,List.getElem?_drop]at hx
 rw[Nat.add_assoc]
 exact hc _ x hx
theorem qge.none {w:World} {a:Option Addr} {cap:Nat} (h:cap<=maxLen):qge w (.slice a 0 cap) []:=⟨a,cap,rfl,Nat.zero_le _,h,fun h=>by simp at h⟩
theorem qcu {w:World} {ops:Array Oper} {rest:List Oper} {o:Oper} {a:Act} {Q:Exit->Act->World->Prop} (hgd:o.guard=none) (s x:Operand)
  (ho:o.op=.call { callee:=.builtin .append,args:=#[s,x],argTypes:=#[167,167] }) (v pv:Value) (base base2:Nat) (O L:List Rb) (hs:a.eval s=v) (hx:a.eval x=pv)
  (hO:qdv w base v O) (hP:qdv w base2 pv L) (hb:base<=base2) (hb2:base<=w.heap.size) (hlen:O.length+L.length<=1000000)
  (h:∀ v' w',qdv w' base v' (O++L)->w.grownBy w' v.ownBlock->wpList Tryz.prog ops Q rest (a.put o.dst v') w'):wpList Tryz.prog ops Q (o :: rest) a w:=by
 obtain⟨i0,hi0,hz0,hz1,hz2⟩:=info_parts qwq
 obtain⟨E,hE,h1,h2⟩:=hO
 obtain⟨E2,hE2,h3,h4⟩:=hP
 have hl1:=ybdk hE
 have hl2:=ybdk hE2
 have h3':=h3
 obtain⟨_,⟨rfl,h0⟩ | ⟨g,cap,cur,rfl,hg,hh,hc,hm,hsz,ht⟩⟩:=h3
 ·have e2:E2=[]:=List.length_eq_zero_iff.1 h0
  subst e2
  refine wpList_append_own_none hgd s x 167 ho base 171 i0 3 ybum hi0 v E.length (qbe E) hs h1 hx (h v w ?_ ⟨rfl,rfl,rfl,Nat.le_refl _,fun _ _ _=>rfl⟩)
  refine⟨E,?_,h1,h2⟩
  rw[hE]
  have:L=[]:=by rw[<-hE2];rfl
  rw[this,List.append_nil]
 ·refine wpList_append_own w hgd s x 167 ho base 171 i0 (.agg #[.int .i64 0,.slice none 0 0,.bool false]) 3 40 ybum hi0 hz0 hz1 hz2 rfl (by decide) v E.length (qbe E) hs h1 ⟨g,0,none⟩ E2.length cap (qbe E2) hx (qik E2) (fun j u hu=>?_) (ybuq h4) (by unfold maxLen;omega) (by omega) hb2 fun v' w' hown hgrow _=>h v' w' ?_ hgrow
  ·have hadd:(⟨g,0,none⟩:Addr).add j=⟨g,j,none⟩:=by unfold Addr.add;split <;> simp_all
   rw[hadd,cell_of_row _ _ _ _ _ _ hh]
   rw[<-ht,List.getElem?_take]at hu
   split at hu
   ·simpa using hu
   ·cases hu
  ·have hkeep:∀ (i:Nat) (c:Array Value),w.heap[i]? = some (.cells c 5 (0,0))->w'.heap[i]? = w.heap[i]? :=fun i c hi=>hgrow.block i (qac hi) (fun e=>qds h1 hi (by decide) e.symm)
   refine⟨E++E2,by rw[List.map_append,hE,hE2],by rw[List.length_append,qgl];exact hown,fun y hy=>?_⟩
   rcases List.mem_append.1 hy with hy | hy
   ·exact (h2 y hy).keep fun i c _ hi=>hkeep i c hi
   ·exact ((h4 y hy).mono hb).keep fun i c _ hi=>hkeep i c hi
theorem ybkl {E:List Rq} (h:E.findIdx? (fun x=>x.b)=none):barI E = -1/\(∀ x ∈ E,x.b=false)/\E.map rab=emit (wrs E):=by
 have h1:∀ x ∈ E,x.b=false:=fun x hx=>by rw[List.findIdx?_eq_none_iff]at h;exact h x hx
 refine⟨by unfold barI;rw[h],h1,?_⟩
 unfold emit wrs
 rw[List.map_map]
 refine List.map_congr_left fun x hx=>?_
 show (x.n,x.D,x.b)=(x.n,x.D,false)
 rw[h1 x hx]
theorem ybkm {E:List Rq} {k:Nat} (h:E.findIdx? (fun x=>x.b)=some k):∃ hk:k<E.length,barI E=(k:Int)/\(∀ x ∈ E.take k,x.b=false)/\E.map rab=emit (wrs (E.take k))++(E[k].n,E[k].D,true) :: (E.drop (k+1)).map rab:=by
 have h0:=h
 rw[List.findIdx?_eq_some_iff_getElem]at h
 obtain⟨hk,h1,h2⟩:=h
 have h3:∀ x ∈ E.take k,x.b=false:=fun x hx=>by
  obtain⟨j,hj,rfl⟩:=List.getElem_of_mem hx
  rw[List.getElem_take]
  have hjk:j<k:=by rw[List.length_take]at hj;omega
  simpa using h2 j hjk
 refine⟨hk,by unfold barI;rw[h0],h3,?_⟩
 conv=>lhs;rw[<-List.take_append_drop k E,List.drop_eq_getElem_cons hk,List.map_append,List.map_cons]
 congr 1
 ·unfold emit wrs
  rw[List.map_map]
  refine List.map_congr_left fun x hx=>?_
  show (x.n,x.D,x.b)=(x.n,x.D,false)
  rw[h3 x hx]
 ·congr 1
  show (E[k].n,E[k].D,E[k].b)=_
  rw[h1]
theorem ybej (P:List Wr):(emit P).length=P.length:=by simp[emit]
theorem ybqb (E:List Rq):(wrs E).length=E.length:=by simp[wrs]
theorem qzx {w:World} {E:List Rq} (h:∀ x ∈ E,RqOk w x) (hb:∀ x ∈ E,x.b=false):∀ x ∈ E,x.b=false/\x.n<256/\qaf w x.v x.D/\x.D.length=64:=by
 intro x hx
 have h1:=hb x hx
 rcases h x hx with⟨h2,_⟩ | h2
 ·rw[h1]at h2;cases h2
 ·exact h2
theorem qvb (w:World) (base:Nat) (h:base<=w.heap.size):qdv (w.alloc (.cells #[.int .i64 0,.slice none 0 0,.bool true] 171)) base (.slice (some ⟨w.heap.size,0,none⟩) 1 1) [barR]:=
 ⟨[⟨0,.slice none 0 0,[],true⟩],rfl,⟨rfl,Or.inr ⟨w.heap.size,1,_,rfl,h,heap_alloc_new w _,Nat.le_refl _,by unfold maxLen;omega,rfl,rfl⟩⟩,fun x hx=>by
  simp at hx
  subst hx
  exact Or.inl ⟨rfl,rfl,rfl,rfl⟩⟩
theorem ybio (h:Nat) (hh:h<256):qdk [] h []=[]:=by
 have h2:=qoq [] h hh
 exact List.length_eq_zero_iff.1 (by simpa using h2)
def qvk (L:List Rb) (h:Nat) (w:World) (e:Ending) (w':World):Prop:=
 ∃ v',e=.returned (.tuple #[v',.int .i64 0])/\qdv w' w.heap.size v' (qii L h)/\Below w.heap.size w w'
theorem ybnx (hsort : qly) (v : Value) (E : List Rq) (h : Nat) (hh : h < 256) (w : World) (hv : qge w v E) (hE : ∀ x ∈ E, RqOk w x) (hl : E.length ≤ 100) :
    Calls Tryz.prog 151 #[v, .int .i64 (h : Int)] w (qvk (E.map rab) h w) := by
  have HSORT : Hid qly := hsort
  clear hsort
  have HV := Lib.hid hv
  have HE := Lib.hid hE
  have HR := Lib.hid (fun W (hW : Below w.heap.size w W) => ybup v E W (qai.below hv.row hW) (fun x hx => (hE x hx).below hW) hl)
  have b1 : decide ((h : Int) < 0) = false := by rw [decide_eq_false_iff_not]; omega
  have b2 : decide ((256 : Int) ≤ (h : Int)) = false := by rw [decide_eq_false_iff_not]; omega
  have b3 : ¬ (256 : Int) ≤ (h : Int) := by omega
  have b4 : ¬ 256 ≤ h := by omega
  clear hv hE
  go_enter Tryz.func151, Tryz.ntmps151
  go_wp2_with fail
  refine (HR.out _ (Below.refl _ _)).mono ?_
  rintro e w1 ⟨rfl, hb1⟩
  have HB1 := Lib.hid hb1
  clear hb1 b1 b2 b3 b4
  go_wp2
  obtain ⟨i0, hi0, hz0, hz1, hz2⟩ := info_parts qwq
  have HI := Lib.hid hi0
  have HZ0 := Lib.hid hz0
  have HZ1 := Lib.hid hz1
  have HZ2 := Lib.hid hz2
  clear hi0 hz0 hz1 hz2
  go_loopw [0, 1, 7] (fun lv hd o wr => ∃ (E' : List Rq) (h' : Nat) (O : List Rb), Hid (qge w lv E') ∧ Hid (∀ x ∈ E', x ∈ E) ∧ E'.length + O.length ≤ 100 ∧ hd = .int .i64 (h' : Int) ∧ h' < 256 ∧ Hid (qdv wr w.heap.size o O) ∧ Hid (O ++ qdk [] h' (E'.map rab) = qii (E.map rab) h) ∧ Hid (Below w.heap.size w wr)) (fun lv _ _ _ => match lv with | .slice _ n _ => n | _ => 0)
  case atStart =>
    exact ⟨E, h, [], HV, fun x hx => hx, by simp; exact hl, rfl, hh, ⟨[], rfl, World.ownsRow_nil _ _ _ _, fun x hx => by simp at hx⟩, rfl, HB1⟩
  case round =>
    obtain ⟨E', h', O, HV', HS, hlen, rfl, hh', HO, HEQ, HB⟩ := hrel
    obtain ⟨a, cap, hlv, hc1, hc2, hc3⟩ := HV'.out
    obtain ⟨n, HN⟩ : ∃ n, Hid (E'.length = n) := ⟨_, rfl⟩
    rw [HN.out] at hlv hc1 hlen hc3
    subst hlv
    have HC3 := Lib.hid hc3
    have HMX : Hid (cap ≤ maxLen) := hc2
    unfold maxLen at hc2
    clear hc3
    by_cases hn : 0 < n
    · obtain ⟨g, o, rfl, hcx⟩ := HC3.out hn
      clear hcx
      have HOK : Hid (∀ x ∈ E', RqOk w x) := fun x hx => HE.out x (HS.out x hx)
      have HBI := Lib.hid (ybqu _ E' _ (qai.below HV'.out.row HB.out) (fun x hx => (HOK.out x hx).below HB.out) (by rw [HN.out]; omega))
      have hzr := HB.out.size
      go_wp2_with fail
      refine HBI.out.mono ?_
      rintro e w2 ⟨rfl, hb2⟩
      have HB2 : Hid (Below w.heap.size w w2) := Below.step HB.out hb2
      have HO2 : Hid (qdv w2 w.heap.size u7 O) := HO.out.below hb2
      have hz2 : w.heap.size ≤ w2.heap.size := HB2.out.size
      clear hb2
      cases hfi : E'.findIdx? (fun x => x.b) with
      | none =>
        obtain ⟨hbi, hnb, hem⟩ := ybkl hfi
        have HBV := Lib.hid hbi
        have HPA := Lib.hid (ybfq HSORT.out _ E' h' hh' w2 (qai.below HV'.out.row HB2.out) (fun x hx => qzx (fun y hy => (HOK.out y hy).below HB2.out) hnb x hx) (by rw [HN.out]; omega))
        unfold qqv at HPA
        have HEM := Lib.hid hem
        clear hfi hbi hnb hem
        rw [HBV.out]
        have HLP : Hid ((emit (qeq (wrs E') h')).length ≤ n) := by
          show _ ≤ _
          rw [ybej, ← HN.out, ← ybqb]
          exact qjz _ _ hh'
        have hlp := HLP.out
        have q1 : decide ((-1 : Int) < 0) = true := by decide
        have q2 : 0 ≤ (n : Int) := by omega
        have q3 : (n : Int) ≤ (cap : Int) := by omega
        have HFIN : Hid ((O ++ emit (qeq (wrs E') h')) ++ qdk [] (qmt (wrs E') h') (([] : List Rq).map rab) = qii (E.map rab) h) := by
          have h1 := HEQ.out
          rw [HEM.out, qlm, List.nil_append] at h1
          show (O ++ _) ++ qdk [] _ [] = _
          rw [ybio _ (qmu _ _ hh'), List.append_nil]
          exact h1
        have hh3 := qmu (wrs E') h' hh'
        clear HEQ HEM
        generalize emit (qeq (wrs E') h') = L at *
        generalize qmt (wrs E') h' = h3 at *
        by_cases hcap : cap = n
        all_goals
          try subst hcap
          go_wp2_with (first
            | (go_at_call 178; refine HPA.out.mono ?_; rintro e w3 ⟨pv, rfl, hp3, hb3⟩
               have HP3 := Lib.hid hp3
               have HO3 := Lib.hid (HO2.out.below hb3)
               have HB3 : Hid (Below w.heap.size w w3) := Below.step HB2.out hb3
               have hz3 := HB3.out.size
               clear hp3 hb3)
            | (at_builtin; refine qcu rfl _ _ rfl _ _ w.heap.size _ _ _ rfl rfl HO3.out HP3.out hz2 hz3 (by omega) ?_; intro v4 w4 hown4 hgrow4))
          have HO4 := Lib.hid hown4
          have HB4 : Hid (Below w.heap.size w w4) := HB3.out.grown hgrow4 hz3 (fun q hq => by
            obtain ⟨_, _, h1, _⟩ := HO3.out
            exact (h1.lt q hq).1)
          clear hown4 hgrow4
          go_wp2
          go_roundw
          case rel => exact ⟨[], h3, _, qge.none (by unfold maxLen; omega), fun x hx => by simp at hx, by simp; omega, rfl, hh3, HO4, HFIN, HB4⟩
          case measure => simp; omega
      | some k =>
        obtain ⟨hkl, hbi, hnb, hem⟩ := ybkm hfi
        have HBV := Lib.hid hbi
        have hkn : k < n := by rw [← HN.out]; exact hkl
        have HVT : Hid (qge w (.slice (some ⟨g, o, none⟩) k cap) (E'.take k)) := HV'.out.take (by omega)
        have htl : (E'.take k).length = k := by rw [List.length_take]; omega
        have HPA := Lib.hid (ybfq HSORT.out _ (E'.take k) h' hh' w2 (qai.below HVT.out.row HB2.out) (fun x hx => qzx (fun y hy => (HOK.out y (List.mem_of_mem_take hy)).below HB2.out) hnb x hx) (by rw [htl]; omega))
        unfold qqv at HPA
        have HEM := Lib.hid hem
        have hlp : (emit (qeq (wrs (E'.take k)) h')).length ≤ k := by
          rw [ybej]
          have h1 := qjz (wrs (E'.take k)) h' hh'
          rw [ybqb, htl] at h1
          exact h1
        clear hfi hbi hnb hem htl
        rw [HBV.out]
        have q1 : decide ((k : Int) < 0) = false := by rw [decide_eq_false_iff_not]; omega
        have q2 : 0 ≤ (k : Int) := by omega
        have q3 : (k : Int) ≤ (cap : Int) := by omega
        have q4 : (k : Int) < (n : Int) := by omega
        have q5 : (k : Int) + 1 ≤ (n : Int) := by omega
        have q6 : (n : Int) ≤ (cap : Int) := by omega
        have q7 : IntKind.i64.wrap ((k : Int) + 1) = (k : Int) + 1 := IntWalk.i64_in _ (by omega)
        have q8 : ((k : Int) + 1).toNat = k + 1 := by omega
        have q9 : 0 ≤ (k : Int) + 1 := by omega
        have HFIN : Hid (((O ++ emit (qeq (wrs (E'.take k)) h')) ++ [barR]) ++ qdk [] (qmt (wrs (E'.take k)) h') ((E'.drop (k + 1)).map rab) = qii (E.map rab) h) := by
          have h1 := HEQ.out
          rw [HEM.out, qop, List.nil_append] at h1
          show _ = _
          rw [← h1]
          simp
        have hh3 := qmu (wrs (E'.take k)) h' hh'
        have HDR := Lib.hid (HV'.out.drop (k := k + 1) (by omega))
        have HDS : Hid (∀ x ∈ E'.drop (k + 1), x ∈ E) := fun x hx => HS.out x (List.mem_of_mem_drop hx)
        have hdl : (E'.drop (k + 1)).length = n - (k + 1) := by rw [List.length_drop, HN.out]
        clear HEQ HEM
        generalize emit (qeq (wrs (E'.take k)) h') = L at *
        generalize qmt (wrs (E'.take k)) h' = h3 at *
        have hol : (O ++ L).length + [barR].length ≤ 1000000 := by rw [List.length_append]; simp; omega
        have hol2 : (O ++ L ++ [barR]).length = O.length + L.length + 1 := by simp; omega
        by_cases hcap : cap = k + 1
        · have hn1 : n = k + 1 := by omega
          subst hcap
          subst hn1
          go_wp2_with (first
            | (go_at_call 178; refine HPA.out.mono ?_; rintro e w3 ⟨pv, rfl, hp3, hb3⟩
               have HP3 := Lib.hid hp3
               have HO3 := Lib.hid (HO2.out.below hb3)
               have HB3 : Hid (Below w.heap.size w w3) := Below.step HB2.out hb3
               have hz3 := HB3.out.size
               have tok1 : True := trivial
               clear hp3 hb3)
            | (at_builtin; have _t := tok1; refine qcu rfl _ _ rfl _ _ w.heap.size _ _ _ rfl rfl HO3.out HP3.out hz2 hz3 (by omega) ?_; intro v4 w4 hown4 hgrow4
               have HO4 := Lib.hid hown4
               have HB4 : Hid (Below w.heap.size w w4) := HB3.out.grown hgrow4 hz3 (fun q hq => by
                 obtain ⟨_, _, h1, _⟩ := HO3.out
                 exact (h1.lt q hq).1)
               have hz4 := HB4.out.size
               have tok2 : True := trivial
               clear hown4 hgrow4 tok1 _t)
            | (at_builtin; have _t := tok2; refine qcu rfl _ _ rfl _ _ w.heap.size w.heap.size _ _ rfl rfl (HO4.out.below ((Below.refl _ _).alloc (Nat.le_refl _) _)) (qvb w4 w.heap.size hz4) (Nat.le_refl _) (by simp; omega) hol ?_; intro v5 w5 hown5 hgrow5
               have HO5 := Lib.hid hown5
               have HB5 : Hid (Below w.heap.size w w5) := (HB4.out.alloc hz4 _).grown hgrow5 (by simp; omega) (fun q hq => by
                 obtain ⟨_, _, h1, _⟩ := HO4.out
                 exact (h1.lt q hq).1)
               clear hown5 hgrow5 tok2 _t))
          have he0 : E'.drop (k + 1) = [] := List.length_eq_zero_iff.1 (by rw [hdl]; omega)
          go_roundw
          case rel => exact ⟨E'.drop (k + 1), h3, _, by rw [he0]; exact qge.none (by unfold maxLen; omega), HDS, by rw [hdl, hol2]; omega, rfl, hh3, HO5, HFIN, HB5⟩
          case measure => simp
        · go_wp2_with (first
            | (go_at_call 178; refine HPA.out.mono ?_; rintro e w3 ⟨pv, rfl, hp3, hb3⟩
               have HP3 := Lib.hid hp3
               have HO3 := Lib.hid (HO2.out.below hb3)
               have HB3 : Hid (Below w.heap.size w w3) := Below.step HB2.out hb3
               have hz3 := HB3.out.size
               have tok1 : True := trivial
               clear hp3 hb3)
            | (at_builtin; have _t := tok1; refine qcu rfl _ _ rfl _ _ w.heap.size _ _ _ rfl rfl HO3.out HP3.out hz2 hz3 (by omega) ?_; intro v4 w4 hown4 hgrow4
               have HO4 := Lib.hid hown4
               have HB4 : Hid (Below w.heap.size w w4) := HB3.out.grown hgrow4 hz3 (fun q hq => by
                 obtain ⟨_, _, h1, _⟩ := HO3.out
                 exact (h1.lt q hq).1)
               have hz4 := HB4.out.size
               have tok2 : True := trivial
               clear hown4 hgrow4 tok1 _t)
            | (at_builtin; have _t := tok2; refine qcu rfl _ _ rfl _ _ w.heap.size w.heap.size _ _ rfl rfl (HO4.out.below ((Below.refl _ _).alloc (Nat.le_refl _) _)) (qvb w4 w.heap.size hz4) (Nat.le_refl _) (by simp; omega) hol ?_; intro v5 w5 hown5 hgrow5
               have HO5 := Lib.hid hown5
               have HB5 : Hid (Below w.heap.size w w5) := (HB4.out.alloc hz4 _).grown hgrow5 (by simp; omega) (fun q hq => by
                 obtain ⟨_, _, h1, _⟩ := HO4.out
                 exact (h1.lt q hq).1)
               clear hown5 hgrow5 tok2 _t))
          go_roundw
          case rel => exact ⟨E'.drop (k + 1), h3, _, HDR, HDS, by rw [hdl, hol2]; omega, rfl, hh3, HO5, HFIN, HB5⟩
          case measure => simp; omega
    · have hn0 : n = 0 := by omega
      have he : E' = [] := List.length_eq_zero_iff.1 (by rw [HN.out]; exact hn0)
      have HF : Hid (O = qii (E.map rab) h) := by
        have h1 := HEQ.out
        rw [he] at h1
        show _ = _
        rw [← h1]
        have h2 := qoq [] h' hh'
        have : qdk [] h' [] = [] := List.length_eq_zero_iff.1 (by simpa using h2)
        show O = O ++ qdk [] h' []
        rw [this, List.append_nil]
      subst hn0
      clear he hn
      go_wp2
      go_ret2
      refine ⟨_, rfl, ?_, HB.out⟩
      rw [← HF.out]
      exact HO.out
end Go.Proofs.YtpoglnpjadmbpaaGreatDoor
