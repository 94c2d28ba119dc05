/- Part of the proofs of FsLinks: the texts ExtUnpW, ExtBackP, Snap8, Snap9, Snap10. -/
import Derived.Test.YtpoglnpjadmbpaaGreatDoorKA4
import Derived.Test.YtpoglnpjadmbpaaGreatDoorKA9
import Derived.Deep.RegionHeld3
import Derived.Deep.AppendLies
set_option maxHeartbeats 16000000
set_option maxRecDepth 100000
namespace Go.Proofs.YtpoglnpjadmbpaaGreatDoor
open Go.RowKit
def ybay (bs:List Int) (w:World) (e:Ending) (w':World):Prop:=
 (qol bs/\∃ v,e=.returned (.tuple #[v,.int .i64 0])/\qao w' v (qfr bs).1/\Below w.heap.size w w'/\∀ b,v.ownBlock=some b->w.heap.size<=b) \/
 (¬ qol bs/\e=.returned (.tuple #[.slice none 0 0,.int .i64 3])/\Below w.heap.size w w')
theorem qve {a b:ByteArray} (h:a.toList=b.toList):a=b:=by
 rw[ByteArray.toList_eq,ByteArray.toList_eq]at h
 cases a;cases b
 simp only[ByteArray.mk.injEq]at *
 exact Array.toList_inj.1 h
theorem ybfz : ∀ (bs:List Int),(∀ x,x ∈ bs->0<=x/\x<=255)->∀ y,y ∈ qkf bs->(0<=y.1/\y.1<=255)/\0<=y.2/\y.2<=255
 | [],_,y,hy=>by simp[qkf]at hy
 | [_],_,y,hy=>by simp[qkf]at hy
 | a :: n :: r,h,y,hy=>by
  rw[qkf]at hy
  split at hy
  ·rcases List.mem_cons.1 hy with rfl | hy
   ·exact⟨h a (by simp),h n (by simp)⟩
   ·exact ybfz r (fun x hx=>h x (by simp[hx])) y hy
  ·simp at hy
theorem ybub {l:List (Int × Int)} (h:∀ x,x ∈ l->(0<=x.1/\x.1<=255)/\0<=x.2/\x.2<=255):∀ y,y ∈ qeg l->0<=y/\y<=255:=by
 intro y hy
 rcases List.mem_append.1 hy with hy | hy
 ·obtain⟨x,hx,hy⟩:=List.mem_flatMap.1 hy
  have:=h x hx
  simp at hy
  rcases hy with rfl | rfl <;> omega
 ·have:=List.eq_of_mem_replicate hy
  omega
theorem qsg {P:List Int} (hr:qca P=0):∀ y,y ∈ qeg (ofE P)->0<=y/\y<=255:=by
 refine ybub fun x hx=>?_
 have hl:=qkb hr
 have:=(qzg P.length P rfl (qwr hr)).1 x (by simpa[ofE]using hx)
 omega
theorem qkq {P:List Int} (hr:qca P=0):(qeg (ofE P)).length=16:=by
 have hl:=qkb hr
 have:=(qzg P.length P rfl (qwr hr)).2
 simp only[qeg,List.length_append,List.length_replicate,qrl]
 have e:(ofE P).length=(ofR P).length:=by simp[ofE]
 omega
theorem qpm (w:World) (g n:Nat) (ns:List Int) (t:TypeId) (hn:ns.length=n) (h:w.heap[g]? = some (.cells (byts ns) t (0,0))):
  (convert 38 9 (.slice (some ⟨g,0,none⟩) n n)).run Tryz.prog w=.ok (.string (qch ns)) w:=
 qez w 38 9 5 g 0 n n ns hn (by kernel_rfl) (by kernel_rfl) (by kernel_rfl) (fun j v hv=>by
  rw[Nat.zero_add,cell_of_row _ _ _ _ _ _ h]
  simpa[byts]using hv)
theorem ybap (v:Value) (bs:List Int) (w:World) (h:qaf w v bs) (hn:bs.length ≠ 16) (hl:bs.length<=1000000):
  Calls Tryz.prog 155 #[v] w (ybay bs w):=by
 have _:=hl
 obtain⟨N,HN⟩:∃ N,Hid (N=bs.length):=⟨_,rfl⟩
 obtain⟨q,cp,hu⟩:∃ p cp,v=.slice p N cp:=by
  rw[HN.out]
  obtain⟨_,⟨h0,a0,c0,rfl⟩ | ⟨g,o,cap,rfl,hc⟩⟩:=h
  ·exact⟨a0,c0,by rw[h0]⟩
  ·exact⟨_,cap,rfl⟩
 subst hu
 rw[<-HN.out]at hl hn
 have hne:((N:Int) != 16)=true:=by rw[bne_iff_ne];omega
 have HB:Hid (¬ qol bs):=fun hg=>hn (HN.out.trans hg.1)
 clear h hn
 go_enter Tryz.func155,Tryz.ntmps155
 go_wp2
 go_ret2
 exact Or.inr ⟨HB.out,rfl,Below.refl _ _⟩
theorem ybdv (bs : List Int) (g off cap : Nat) (w : World) (hc : ∀ j (hj : j < bs.length), w.cell? ⟨g, off + j, none⟩ = some (.int .u8 bs[j])) (hn : bs.length = 16) (hx : ∀ x, x ∈ bs → 0 ≤ x ∧ x ≤ 255) :
    Calls Tryz.prog 155 #[.slice (some ⟨g, off, none⟩) 16 cap] w (ybay bs w) := by
  have HC := Lib.hid hc
  have HN := Lib.hid hn
  have HX := Lib.hid hx
  have HRI := Lib.hid (ybfz bs hx)
  have hgl := 0
  clear hc hn hx hgl
  obtain ⟨i0, hi, hz0, hz1, hz2⟩ := info_parts yblg
  have HI := Lib.hid hi
  have HZ0 := Lib.hid hz0
  have HZ1 := Lib.hid hz1
  have HZ2 := Lib.hid hz2
  clear hi hz0 hz1 hz2
  go_enter Tryz.func155, Tryz.ntmps155
  go_wp2
  go_loopw [4, 5] (fun o i wr => ∃ (k m : Nat) (acc : List (Int × Int)), m ≤ 16 ∧ i = .int .i64 m ∧ Hid (m = 2 * k ∧ acc.length = k) ∧ Hid (acc ++ qkf (bs.drop (2 * k)) = qkf bs) ∧ Hid (wr.ownsRow w.heap.size 221 2 o acc.length (qbw acc)) ∧ Below w.heap.size w wr) (fun _ i _ => 16 - (intOf i).toNat)
  case atStart => exact ⟨0, 0, [], by omega, rfl, ⟨rfl, rfl⟩, rfl, World.ownsRow_nil _ _ _ _, Below.refl _ _⟩
  case round =>
    obtain ⟨k, m, acc, hk, rfl, HM, HR, HO, HB⟩ := hrel
    by_cases hlt : m < 16
    · have hm14 : m ≤ 14 := by have := HM.out.1; omega
      have h1 : 2 * k < bs.length := by rw [HN.out]; have := HM.out.1; omega
      have h2 : 2 * k + 1 < bs.length := by rw [HN.out]; have := HM.out.1; omega
      have e1 := HC.out (2 * k) h1
      have e2 := HC.out (2 * k + 1) h2
      have c1 := (HB.cell (block_lt_of_cell e1)).trans e1
      have c2 := (HB.cell (block_lt_of_cell e2)).trans e2
      have r1 := HX.out _ (List.getElem_mem h1)
      have r2 := HX.out _ (List.getElem_mem h2)
      have hd := ybjj bs k h2
      obtain ⟨a, ha⟩ : ∃ a, Hid (a = bs[2 * k]) := ⟨bs[2 * k], rfl⟩
      obtain ⟨n, hn⟩ : ∃ n, Hid (n = bs[2 * k + 1]) := ⟨bs[2 * k + 1], rfl⟩
      rw [← ha.out] at c1 r1 hd
      rw [← hn.out] at c2 r2 hd
      rw [← HM.out.1] at c1 c2
      have HD := Lib.hid hd
      clear e1 e2 hd
      obtain ⟨ha0, ha1⟩ := r1
      obtain ⟨hn0, hn1⟩ := r2
      have hlt' := (HO.out.alloc (.cells #[.int .i64 a, .int .i64 n] 221)).lt
      have HLT := Lib.hid hlt'
      clear hlt'
      by_cases hn0 : 0 < n
      · have s1 : IntKind.i64.wrap ((m : Int) + 1) = (m : Int) + 1 := IntWalk.i64_in _ (by omega)
        have s2 : 0 ≤ (m : Int) + 1 := by omega
        have s3 : ((m : Int) + 1).toNat = m + 1 := by omega
        have s4 : (m : Int) + 1 < 16 := by omega
        have s5 : (m : Int) < 16 := by omega
        have s6 : IntKind.i64.wrap a = a := IntWalk.i64_in _ (by omega)
        have s7 : IntKind.i64.wrap n = n := IntWalk.i64_in _ (by omega)
        have hL : acc.length ≤ 7 := by have := HM.out; omega
        have ag : Value.ownBlock u4 ≠ some g := fun hq => by
          have h1 := (HLT.out g hq).1
          have h2 := block_lt_of_cell (HC.out 0 (by rw [HN.out]; omega))
          simp at h2; omega
        have AG := Lib.hid ag
        have hgw := block_lt_of_cell c1
        simp only at hgw
        have HBd : Hid (Below w.heap.size w wr.drew) := ⟨HB.os, HB.tape, HB.output, HB.size, HB.block⟩
        have HLTd : Hid (∀ q, Value.ownBlock u4 = some q → w.heap.size ≤ q) := fun q hq => (HLT.out q hq).1
        have hsz := HB.size
        clear ag
        go_wp2_with fail
        go_region_held3 (fun w' => w'.cell? ⟨g, off + m, none⟩ = some (.int .u8 a) ∧ w'.cell? ⟨g, off + (m + 1), none⟩ = some (.int .u8 n))
          (first
            | go_keep
            | (go_split_ands
               refine ⟨?_, ?_⟩
               · (rw [hgrow.cell_far _ (by simp; omega) (Ne.symm AG.out)]; assumption)
               · (rw [hgrow.cell_far _ (by simp; omega) (Ne.symm AG.out)]; assumption)))
          ((refine step_append_lies _ (by rfl) _ _ _ (by rfl) w.heap.size 221 i0 _ 2 16 ybxn HI.out HZ0.out HZ1.out HZ2.out rfl (by omega) u4 acc.length (qbw acc) (by rfl) ((HO.out.alloc _).drew)
              ⟨wr.heap.size, 0, none⟩ 1 1 [.int .i64 a, .int .i64 n] (by rfl) (by rfl) (World.news_of_block (cs := #[.int .i64 a, .int .i64 n]) (t := 221) (fr := (0, 0)) (heap_alloc_new wr _)) (by simp [Value.oneCell'])
              (by omega) (by unfold maxLen; omega) (by omega) (by simp; omega) (wr.heap.size + 1) (by simp) ?_; intro gg cap' w4 hown hgrow hat hltt))
        have HO4 : Hid (w4.ownsRow w.heap.size 221 2 (.slice (some ⟨gg, 0, none⟩) (acc.length + 1) cap') (acc ++ [(a, n)]).length (qbw (acc ++ [(a, n)]))) := by
          rw [qdm, List.length_append]
          exact hown
        have HB4 : Below w.heap.size w w4 := Below.grown (qba (HB.alloc HB.size _) 1) hgrow (by simp [World.drewN]; omega) HLTd.out
        have HR4 : Hid ((acc ++ [(a, n)]) ++ qkf (bs.drop (2 * (k + 1))) = qkf bs) := by
          rw [← HR.out, HD.out, if_pos hn0]; simp [Hid]
        clear hown hgrow hat hltt s1 s3 s6 s7
        go_wp2
        go_roundw
        case rel => exact ⟨k + 1, m + 2, acc ++ [(a, n)], by omega, by go_num, by have := HM.out; exact ⟨by omega, by simp; omega⟩, HR4, HO4, HB4⟩
        case measure => simp [intOf]; omega
      · have HRUN : Hid (acc = qkf bs) := by
          rw [← HR.out, HD.out, if_neg hn0]; simp [Hid]
        have hnz : n = 0 := by omega
        subst hnz
        have hL : acc.length ≤ 8 := by have := HM.out; omega
        obtain ⟨q2, c2, ho, _⟩ := qat HO.out
        subst ho
        go_wp2_with fail
        refine (quu _ acc _ (qai.of_owns HO.out) (by omega) (fun x hx => by rw [HRUN.out] at hx; have := HRI.out x hx; omega)).mono ?_
        rintro e w3 (⟨h0, v, rfl, hown3, hb3⟩ | ⟨h0, rfl, hb3⟩)
        · have HPE : Hid ((qfr bs).2 = 0) := by rw [qfr, ← HRUN.out]; exact h0
          have HR0 : Hid (qca (qfr bs).1 = 0) := qlo HPE.out
          have HI3 : Hid (qao w3 v (qfr bs).1) := by
            have := qai.of_owns hown3
            rw [HRUN.out] at this; exact this
          have HNW : Hid (∀ b, v.ownBlock = some b → w.heap.size ≤ b) := fun b hb => Nat.le_trans HB.size (hown3.lt b hb).1
          clear h0 hown3
          have hB3 := Below.step HB hb3
          go_wp2_with fail
          refine (qsh _ (qfr bs).1 _ HI3.out HR0.out).mono ?_
          rintro e w4 ⟨g4, rfl, hg4, hh4, hb4⟩
          have hB4 := Below.step hB3 hb4
          have hs1 := qpm w4 g4 16 _ _ (qkq HR0.out) hh4
          have hs2 : (convert 38 9 (.slice (some ⟨g, off, none⟩) 16 cap)).run Tryz.prog w4 = .ok (.string (qch bs)) w4 :=
            qez w4 38 9 5 g off cap 16 bs HN.out (by kernel_rfl) (by kernel_rfl) (by kernel_rfl) (fun j x hx => by
              have hj : j < bs.length := by
                rcases Nat.lt_or_ge j bs.length with h | h
                · exact h
                · rw [List.getElem?_eq_none (by simpa using h)] at hx; cases hx
              have e : (bs.map (Value.int .u8))[j]? = some (.int .u8 bs[j]) := by simp [hj]
              rw [e] at hx
              cases hx
              have := HC.out j hj
              exact (hB4.cell (block_lt_of_cell this)).trans this)
          have HI4 : Hid (qao w4 v (qfr bs).1) := qai.below HI3.out hb4
          clear hh4
          by_cases heq : qeg (ofE (qfr bs).1) = bs
          · have HG : Hid (qol bs) := ⟨HN.out, HPE.out, heq⟩
            rw [heq] at hs1
            clear heq
            generalize qch bs = S at hs1 hs2
            go_wp2
            go_ret2
            exact Or.inl ⟨HG.out, _, rfl, HI4.out, hB4, HNW.out⟩
          · have HG : Hid (¬ qol bs) := fun h => heq h.2.2
            have hne : qch (qeg (ofE (qfr bs).1)) ≠ qch bs := fun h => heq (quc (qsg HR0.out) HX.out h)
            clear heq
            generalize qch bs = S at hs1 hs2 hne
            generalize qch (qeg (ofE (qfr bs).1)) = S' at hs1 hs2 hne
            have hne2 : (S'.toList == S.toList) = false := by rw [beq_eq_false_iff_ne]; exact fun h => hne (qve h)
            clear hne
            go_wp2
            go_ret2
            exact Or.inr ⟨HG.out, rfl, hB4⟩
        · have HG : Hid (¬ qol bs) := fun h => h0 (by rw [HRUN.out]; exact h.2.1)
          generalize (ptsR acc []).2 = c at h0
          have hc0 : (c != 0) = true := by rw [bne_iff_ne]; exact h0
          have hB3 := Below.step HB hb3
          clear h0
          go_wp2
          go_ret2
          exact Or.inr ⟨HG.out, rfl, hB3⟩
    · have HRUN : Hid (acc = qkf bs) := by
        rw [← HR.out, List.drop_of_length_le (by rw [HN.out]; have := HM.out; omega)]; simp [Hid, qkf]
      have hL : acc.length ≤ 8 := by have := HM.out; omega
      obtain ⟨q2, c2, ho, _⟩ := qat HO.out
      subst ho
      go_wp2_with fail
      refine (quu _ acc _ (qai.of_owns HO.out) (by omega) (fun x hx => by rw [HRUN.out] at hx; have := HRI.out x hx; omega)).mono ?_
      rintro e w3 (⟨h0, v, rfl, hown3, hb3⟩ | ⟨h0, rfl, hb3⟩)
      · have HPE : Hid ((qfr bs).2 = 0) := by rw [qfr, ← HRUN.out]; exact h0
        have HR0 : Hid (qca (qfr bs).1 = 0) := qlo HPE.out
        have HI3 : Hid (qao w3 v (qfr bs).1) := by
          have := qai.of_owns hown3
          rw [HRUN.out] at this; exact this
        have HNW : Hid (∀ b, v.ownBlock = some b → w.heap.size ≤ b) := fun b hb => Nat.le_trans HB.size (hown3.lt b hb).1
        clear h0 hown3
        have hB3 := Below.step HB hb3
        go_wp2_with fail
        refine (qsh _ (qfr bs).1 _ HI3.out HR0.out).mono ?_
        rintro e w4 ⟨g4, rfl, hg4, hh4, hb4⟩
        have hB4 := Below.step hB3 hb4
        have hs1 := qpm w4 g4 16 _ _ (qkq HR0.out) hh4
        have hs2 : (convert 38 9 (.slice (some ⟨g, off, none⟩) 16 cap)).run Tryz.prog w4 = .ok (.string (qch bs)) w4 :=
          qez w4 38 9 5 g off cap 16 bs HN.out (by kernel_rfl) (by kernel_rfl) (by kernel_rfl) (fun j x hx => by
            have hj : j < bs.length := by
              rcases Nat.lt_or_ge j bs.length with h | h
              · exact h
              · rw [List.getElem?_eq_none (by simpa using h)] at hx; cases hx
            have e : (bs.map (Value.int .u8))[j]? = some (.int .u8 bs[j]) := by simp [hj]
            rw [e] at hx
            cases hx
            have := HC.out j hj
            exact (hB4.cell (block_lt_of_cell this)).trans this)
        have HI4 : Hid (qao w4 v (qfr bs).1) := qai.below HI3.out hb4
        clear hh4
        by_cases heq : qeg (ofE (qfr bs).1) = bs
        · have HG : Hid (qol bs) := ⟨HN.out, HPE.out, heq⟩
          rw [heq] at hs1
          clear heq
          generalize qch bs = S at hs1 hs2
          go_wp2
          go_ret2
          exact Or.inl ⟨HG.out, _, rfl, HI4.out, hB4, HNW.out⟩
        · have HG : Hid (¬ qol bs) := fun h => heq h.2.2
          have hne : qch (qeg (ofE (qfr bs).1)) ≠ qch bs := fun h => heq (quc (qsg HR0.out) HX.out h)
          clear heq
          generalize qch bs = S at hs1 hs2 hne
          generalize qch (qeg (ofE (qfr bs).1)) = S' at hs1 hs2 hne
          have hne2 : (S'.toList == S.toList) = false := by rw [beq_eq_false_iff_ne]; exact fun h => hne (qve h)
          clear hne
          go_wp2
          go_ret2
          exact Or.inr ⟨HG.out, rfl, hB4⟩
      · have HG : Hid (¬ qol bs) := fun h => h0 (by rw [HRUN.out]; exact h.2.1)
        generalize (ptsR acc []).2 = c at h0
        have hc0 : (c != 0) = true := by rw [bne_iff_ne]; exact h0
        have hB3 := Below.step HB hb3
        clear h0
        go_wp2
        go_ret2
        exact Or.inr ⟨HG.out, rfl, hB3⟩
theorem ybju (v:Value) (bs:List Int) (w:World) (h:qaf w v bs) (hl:bs.length<=1000000) (hx:∀ x,x ∈ bs->0<=x/\x<=255):
  Calls Tryz.prog 155 #[v] w (ybay bs w):=by
 by_cases hn:bs.length=16
 ·obtain⟨_,⟨h0,_⟩ | ⟨g,off,cap,rfl,hc⟩⟩:=h
  ·omega
  ·rw[hn]
   exact ybdv bs g off cap w (fun j hj=>hc j _ (qcj bs j hj)) hn hx
 ·exact ybap v bs w h hn hl
section
variable {P : Program}
theorem qio {ops:Array Oper} {Q:Act->Prop} {rest:List Oper} {o:Oper} {a:Act} {C:World->Prop} (hw:Region.wanted o (yielded ops a.tmps)=true) (ty:TypeId) (x:Operand) (ho:o.op=.load ty x)
  (g off:Nat) (hx:a.eval x=.pointer (some ⟨g,off,none⟩)) (t:TypeId) (cs A:Array Value) (fr:Nat × Nat) (d:TypeDesc) (hg:∀ w,C w->w.heap[g]? = some (.cells cs t fr)) (hA:∀ j,j<A.size->cs[off+j]? = A[j]?)
  (hu:P.underlying ty=some d) (hd:(match d with | .struct _ | .array _ _=>true | _=>false)=true) (hi:(P.info? ty).map (·.size)=some A.size)
  (h:wpQuiet P ops C Q rest (a.put o.dst (.agg A))):wpQuiet P ops C Q (o :: rest) a:=
 BigFrame.wpQuiet_want hw fun _ hK=>⟨.agg A,fun w hw=>by
  unfold Oper.quietAt execOp
  simp only[ho,hx,Instr.loadAt,Instr.sureAddr,Sem.run_bind,Sem.run_pure,Result.andThen_ok,qfx w g off t ty cs A fr d (hg w hw) hA hu hd hi]
  exact⟨rfl,rfl⟩,hK _ h⟩
theorem ybar {ops:Array Oper} {rest:List Oper} {o:Oper} {a:Act} {w:World} {Q:Exit->Act->World->Prop} (hw:Region.wanted o (yielded ops a.tmps)=true) (v:Value)
  (hr:∀ w,(execOp a.eval o).run P w=.ok (.value v) w) (h:wpList P ops Q rest (a.put o.dst v) w):wpList P ops Q (o :: rest) a w:=
 qlq hw fun _ hK=>by
  unfold Oper.wp
  rw[hr]
  exact hK _ _ h
theorem ybdl {o:Oper} {a:Act} (ty ty':TypeId) (x y:Operand) (ho:o.op=.binOp .neq ty x y ty') (X Y:Array Value) (hx:a.eval x=.agg X) (hy:a.eval y=.agg Y) (b:Bool)
  (hE:∀ w,(Op.equalIn 10000 ty (.agg X) (.agg Y)).run P w=.ok b w) (hG:P.eqGuardType P.depth ty=false) (w:World):(execOp a.eval o).run P w=.ok (.value (.bool (!b))) w:=by
 unfold execOp
 simp[ho,hx,hy,Sem.run_bind,run_eqGuard_agg (P:=P) w _ ty x y X Y hG,run_neq_struct,hE]
end
theorem ybjl (f:Fo) (n:Nat):qdc f 4 n=((qbd f 1 && f.hs 1 n) || (qbd f 2 && f.hs 2 n) || (qbd f 3 && f.hs 3 n)):=by
 simp only[qdc]
 cases qbd f 1 <;> cases qbd f 2 <;> cases qbd f 3 <;> simp[join,emp]
theorem qmw (s t:Nat->Bool):qea (enc s) (enc t) 0 32:=fun j hj=>⟨.u8,_,_,by rw[Nat.zero_add];exact qdh s j hj,by rw[Nat.zero_add];exact qdh t j hj⟩
theorem ybaa (s:Nat->Bool) (w:World):(Op.equalIn 10000 76 (.agg (enc s)) (.agg (enc s))).run Tryz.prog w=.ok true w:=by
 rw[qkd (len:=32) (n:=1) setT byteI (qlh byteT) _ _ w (qmw s s),(ybac (qau s) (qau s) (qmw s s)).2 rfl]
def foB (bs:List Int):Fo:=⟨fun k j=>bs.getD (k*16+j) 0,fun k m=>(bs.getD (64+k*32+m / 8) 0).toNat.testBit (m % 8)⟩
def upF (bs:List Int) (k i:Nat):Fo:=⟨fun a j=>if a<k\/(a=k/\j<i) then (foB bs).nd a j else 0,fun a=>if a<k then (foB bs).hs a else emp⟩
def U8s (bs:List Int):Prop:=∀ x,x ∈ bs->0<=x/\x<=255
theorem ybki {bs:List Int} (h:U8s bs) (i:Nat):0<=bs.getD i 0/\bs.getD i 0<=255:=by
 rw[List.getD_eq_getElem?_getD]
 cases hq:bs[i]? with
 | none=>simp
 | some x=>exact h x (List.mem_of_getElem? hq)
theorem qtz {bs:List Int} (h:U8s bs) (k i:Nat):(qbq ((foB bs).hs k) i:Int)=bs.getD (64+k*32+i) 0:=by
 obtain⟨h0,h1⟩:=ybki h (64+k*32+i)
 obtain⟨x,hx⟩:=Int.eq_ofNat_of_zero_le h0
 have e:qbq ((foB bs).hs k) i=qcv (fun b=>x.testBit b):=qgq fun b hb=>by
  have e1:(8*i+b) / 8=i:=by omega
  have e2:(8*i+b) % 8=b:=by omega
  unfold foB
  simp only[e1,e2]
  rw[hx,Int.toNat_natCast]
 rw[e,ybgv _ (by omega),hx]
theorem ybek {f g:Fo} (h1:∀ k j,k<4->j<16->f.nd k j=g.nd k j) (h2:∀ k m,k<4->m<256->f.hs k m=g.hs k m):encF f=encF g:=by
 apply Array.ext_getElem?
 intro i
 by_cases hi:i<192
 ·obtain⟨a,j,ha,hj,rfl⟩:∃ a j,a<4/\j<48/\i=a*48+j:=⟨i / 48,i % 48,by omega,by omega,by omega⟩
  rw[qbz _ a j ha hj,qbz _ a j ha hj]
  unfold qdb
  by_cases h:j<16
  ·rw[if_pos h,if_pos h,h1 a j ha h]
  ·rw[if_neg h,if_neg h]
   have e:qbq (f.hs a) (j - 16)=qbq (g.hs a) (j - 16):=qgq fun b hb=>h2 a _ ha (by omega)
   rw[e]
 ·rw[Array.getElem?_eq_none (by rw[qak];omega),Array.getElem?_eq_none (by rw[qak];omega)]
theorem upF_0 (bs:List Int):encF (upF bs 0 0)=encF qiq:=ybek (fun k j _ _=>by simp[upF,qiq]) (fun k m _ _=>by simp[upF,qiq])
theorem upF_4 (bs:List Int):encF (upF bs 4 0)=encF (foB bs):=ybek (fun k j hk _=>by simp[upF,hk]) (fun k m hk _=>by simp[upF,hk])
theorem ybvn (bs:List Int) (k i:Nat) (hk:k<4) (hi:i<16):(encF (upF bs k i)).setIfInBounds (k*48+i) (.int .i64 (bs.getD (k*16+i) 0))=encF (upF bs k (i+1)):=by
 apply Array.ext_getElem?
 intro n
 rw[Array.getElem?_setIfInBounds]
 by_cases hn:n<192
 ·obtain⟨a,j,ha,hj,rfl⟩:∃ a j,a<4/\j<48/\n=a*48+j:=⟨n / 48,n % 48,by omega,by omega,by omega⟩
  rw[qbz _ a j ha hj,qbz _ a j ha hj]
  by_cases he:k*48+i=a*48+j
  ·have ea:a=k:=by omega
   have ej:j=i:=by omega
   subst ea ej
   rw[if_pos rfl,if_pos (by rw[qak];omega)]
   unfold qdb upF
   simp only[if_pos hi]
   rw[if_pos (Or.inr ⟨trivial,by omega⟩)]
   rfl
  ·rw[if_neg he]
   unfold qdb upF
   by_cases h16:j<16
   ·simp only[if_pos h16]
    by_cases hc:a<k\/a=k/\j<i
    ·rw[if_pos hc,if_pos (by omega)]
    ·rw[if_neg hc,if_neg (by omega)]
   ·simp only[if_neg h16]
 ·rw[if_neg (by omega),Array.getElem?_eq_none (by rw[qak];omega),Array.getElem?_eq_none (by rw[qak];omega)]
theorem ycad (bs:List Int) (hu:U8s bs) (hl:bs.length=192) (k:Nat) (hk:k<4):((encF (upF bs k 16)).toList.take (k*48+16)++u8s ((bs.drop (64+32*k)).take 32)++(encF (upF bs k 16)).toList.drop (k*48+16+(u8s ((bs.drop (64+32*k)).take 32)).length)).toArray=encF (upF bs (k+1) 0):=by
 have hlen:(u8s ((bs.drop (64+32*k)).take 32)).length=32:=by rw[qal,List.length_take,List.length_drop,hl];omega
 apply Array.ext_getElem?
 intro n
 rw[hlen]
 by_cases hn:n<192
 ·obtain⟨a,j,ha,hj,rfl⟩:∃ a j,a<4/\j<48/\n=a*48+j:=⟨n / 48,n % 48,by omega,by omega,by omega⟩
  rw[qbz _ a j ha hj,List.getElem?_toArray]
  have hl1:((encF (upF bs k 16)).toList.take (k*48+16)).length=k*48+16:=by rw[List.length_take,Array.length_toList,qak];omega
  by_cases h1:a*48+j<k*48+16
  ·rw[List.append_assoc,List.getElem?_append_left (by omega),List.getElem?_take,if_pos h1,Array.getElem?_toList,qbz _ a j ha hj]
   unfold qdb upF
   by_cases h16:j<16
   ·simp only[if_pos h16]
    rw[if_pos (by omega),if_pos (by omega)]
   ·simp only[if_neg h16]
    rw[if_pos (by omega),if_pos (by omega)]
  ·by_cases h2:a*48+j<k*48+48
   ·have ea:a=k:=by omega
    subst ea
    rw[List.append_assoc,List.getElem?_append_right (by omega),List.getElem?_append_left (by omega),hl1,show a*48+j - (a*48+16)=j - 16 by omega]
    unfold u8s
    rw[List.getElem?_map,List.getElem?_take,if_pos (by omega),List.getElem?_drop]
    unfold qdb upF
    simp only[if_neg (show ¬ j<16 by omega)]
    rw[if_pos (by omega),qtz hu]
    rw[show 64+32*a+(j - 16)=64+a*32+(j - 16) by omega,List.getD_eq_getElem?_getD]
    obtain⟨x,hx⟩:∃ x,bs[64+a*32+(j - 16)]? = some x:=⟨_,List.getElem?_eq_getElem (by omega)⟩
    rw[hx]
    rfl
   ·rw[List.getElem?_append_right (by rw[List.length_append];omega),List.length_append,hl1,hlen,List.getElem?_drop,show k*48+16+32+(a*48+j - (k*48+16+32))=a*48+j by omega,Array.getElem?_toList,qbz _ a j ha hj]
    unfold qdb upF
    by_cases h16:j<16
    ·simp only[if_pos h16]
     rw[if_neg (by omega),if_neg (by omega)]
    ·simp only[if_neg h16]
     rw[if_neg (by omega),if_neg (by omega)]
 ·rw[Array.getElem?_eq_none (by simp[qak,hlen];omega),Array.getElem?_eq_none (by rw[qak];omega)]
theorem ybud {bs:List Int} (hu:U8s bs) (hl:bs.length=192):qbs (foB bs)=bs:=by
 apply List.ext_getElem?
 intro n
 by_cases hn:n<192
 ·obtain⟨x,hx⟩:∃ x,bs[n]? = some x:=⟨_,List.getElem?_eq_getElem (by omega)⟩
  have hD:bs.getD n 0=x:=by rw[List.getD_eq_getElem?_getD,hx];rfl
  unfold qbs
  by_cases h:n<64
  ·obtain⟨k,i,hk,hi,rfl⟩:∃ k i,k<4/\i<16/\n=k*16+i:=⟨n / 16,n % 16,by omega,by omega,by omega⟩
   rw[List.getElem?_append_left (by rw[qxn];exact h),ybvu _ k i hk hi,hx,<-hD]
   rfl
  ·obtain⟨k,i,hk,hi,rfl⟩:∃ k i,k<4/\i<32/\n=64+k*32+i:=⟨(n - 64) / 32,(n - 64) % 32,by omega,by omega,by omega⟩
   rw[List.getElem?_append_right (by rw[qxn];omega),qxn,show 64+k*32+i - 64=k*32+i by omega,ybvv _ k i hk hi,qtz hu,hD,hx]
 ·rw[List.getElem?_eq_none (by rw[qgy];omega),List.getElem?_eq_none (by omega)]
def unpF (bs:List Int):Fo × Int:=if bs.length=192/\qbn (foB bs)=0 then (foB bs,0) else (qiq,3)
theorem ybvl (v:Value) (bs:List Int) (w:World) (h:qaf w v bs) (hn:bs.length ≠ 192) (hl:bs.length<=1000000) (Z0:Array Value) (HZ0:Hid (Z0=encF qiq)):
  Calls Tryz.prog 83 #[v] w fun e w'=>e=.returned (.tuple #[.agg Z0,.int .i64 3])/\Below w.heap.size w w':=by
 have _:=hl
 have HZ:Hid (∀ w,(zeroValue 80).run Tryz.prog w=.ok (.agg Z0) w):=by rw[HZ0.out];exact forZ
 have HZS:Hid (Z0.size=192):=by rw[HZ0.out];exact qak _
 have HZ1:Hid (Z0.all (·.oneCell')=true):=by rw[HZ0.out];exact qis _
 obtain⟨N,HN⟩:∃ N,Hid (N=bs.length):=⟨_,rfl⟩
 obtain⟨q,cp,hu⟩:∃ p cp,v=.slice p N cp:=by
  rw[HN.out]
  obtain⟨_,⟨h0,a0,c0,rfl⟩ | ⟨g,o,cap,rfl,hc⟩⟩:=h
  ·exact⟨a0,c0,by rw[h0]⟩
  ·exact⟨_,cap,rfl⟩
 subst hu
 rw[<-HN.out]at hl hn
 have hne:((N:Int) != 192)=true:=by rw[bne_iff_ne];omega
 clear h hn
 have hz:=HZ.out
 go_enter Tryz.func83,Tryz.ntmps83
 go_wp2_with (first
  | (refine qbh rfl 80 rfl Z0 HZ.out ?_)
  | (refine wpList_store_row rfl 80 (.tmp 2) (.tmp 12) rfl w.heap.size Z0 rfl rfl 80 Z0 (heap_alloc_new w _) (by rw[HZS.out];exact forI) rfl HZ1.out ?_))
 refine bodyPost_ret (qiz rfl _ _ w.heap.size 80 Z0 (0,0) _ (.int .i64 3) rfl rfl (setRow_heap _ _ _ _ _ _ (heap_alloc_new w _)) forT rfl (by rw[HZS.out];exact forI)) rfl ⟨rfl,?_⟩
 exact Below.setRow ((Below.refl _ _).alloc (Nat.le_refl _) _) (Nat.le_refl _) _
theorem ybgy {w:World} {v:Value} {bs:List Int} (h:qaf w v bs) (h0:0<bs.length):∃ g o c,v=.slice (some ⟨g,o,none⟩) bs.length c/\g<w.heap.size/\∀ j,j<bs.length->w.cell? ⟨g,o+j,none⟩=some (.int .u8 (bs.getD j 0)):=by
 obtain⟨_,⟨h1,_⟩ | ⟨g,o,c,rfl,hc⟩⟩:=h
 ·omega
 ·have key:∀ j,j<bs.length->w.cell? ⟨g,o+j,none⟩=some (.int .u8 (bs.getD j 0)):=fun j hj=>by
   rw[hc j _ (qcj bs j hj)]
   simp[hj]
  exact⟨g,o,c,rfl,block_lt_of_cell (key 0 h0),key⟩
theorem ycac (g o cp:Nat) (bs:List Int) (w:World) (hgw:g<w.heap.size) (HC:Hid (∀ j,j<192->w.cell? ⟨g,o+j,none⟩=some (.int .u8 (bs.getD j 0)))) (HL:Hid (bs.length=192)) (HU:Hid (U8s bs))
  (HBA:Hid (qaf w (.slice (some ⟨g,o,none⟩) 192 cp) bs)) (hcp:192<=cp) (Z0 X:Array Value) (c:Int) (HZ0:Hid (Z0=encF qiq)) (HX:Hid (X=encF (unpF bs).1)) (Hc:Hid (c=(unpF bs).2)):
  Calls Tryz.prog 83 #[.slice (some ⟨g,o,none⟩) 192 cp] w fun e w'=>e=.returned (.tuple #[.agg X,.int .i64 c])/\Below w.heap.size w w':=by
 have HZ:Hid (∀ w,(zeroValue 80).run Tryz.prog w=.ok (.agg Z0) w):=by rw[HZ0.out];exact forZ
 have HZS:Hid (Z0.size=192):=by rw[HZ0.out];exact qak _
 have HZ1:Hid (Z0.all (·.oneCell')=true):=by rw[HZ0.out];exact qis _
 go_enter Tryz.func83,Tryz.ntmps83
 go_wp2_with (first
  | (refine qbh rfl 80 rfl Z0 HZ.out ?_))
 go_loopw [13] (fun i wr=>∃ k:Nat,k<=4/\i=.int .i64 k/\Hid (wr.heap[w.heap.size]? = some (.cells Z0 80 (0,0)))/\Hid (wr.heap[w.heap.size+1]? = some (.cells (encF (upF bs k 0)) 80 (0,0)))/\Below w.heap.size w wr) (fun i _=>4 - (intOf i).toNat)
 case atStart=>
  refine⟨0,by omega,rfl,heap_alloc2_old w _ _,?_,((Below.refl _ _).alloc (Nat.le_refl _) _).alloc (by simp) _⟩
  rw[upF_0,<-HZ0.out]
  exact heap_alloc2_new w _ _
 case round=>
  obtain⟨k,hk,rfl,HR,HF,HB⟩:=hrel
  by_cases hlt:k<4
  ·have hlt2:(k:Int)<4:=by omega
   have hk0:(0:Int)<=(k:Int):=by omega
   obtain⟨wo,hwo⟩:∃ wo:World,wo=wr:=⟨_,rfl⟩
   subst hwo
   go_wp2
   go_loopw [16] (fun i wr=>∃ j:Nat,j<=16/\i=.int .i64 j/\Hid (wr.heap[w.heap.size]? = some (.cells Z0 80 (0,0)))/\Hid (wr.heap[w.heap.size+1]? = some (.cells (encF (upF bs k j)) 80 (0,0)))/\Below w.heap.size w wr) (fun i _=>16 - (intOf i).toNat)
   case atStart=>exact⟨0,by omega,rfl,HR,HF,HB⟩
   case round=>
    obtain⟨j,hj,rfl,HR',HF',HB'⟩:=hrel
    by_cases hjl:j<16
    ·have hj2:(j:Int)<16:=by omega
     have hj0:(0:Int)<=(j:Int):=by omega
     obtain⟨x,Hx⟩:∃ x,Hid (x=bs.getD (k*16+j) 0):=⟨_,rfl⟩
     have hx1:=ybki HU.out (k*16+j)
     rw[<-Hx.out]at hx1
     obtain⟨hx0,hx255⟩:=hx1
     have cb:wr.cell? ⟨g,o+(16*k+j),none⟩=some (.int .u8 x):=by
      rw[HB'.cell (p:=⟨g,o+(16*k+j),none⟩) hgw,Hx.out,show 16*k+j=k*16+j by omega]
      exact HC.out _ (by omega)
     have cf:wr.cell? ⟨w.heap.size+1,k*48+j,none⟩=some (.int .i64 0):=by
      rw[cell_of_row _ _ _ _ _ _ HF'.out,qbz _ k j hlt (by omega)]
      unfold qdb upF
      simp[hjl]
     have ff:wr.frozen? ⟨w.heap.size+1,k*48+j,none⟩=false:=frozen_of_row _ _ _ _ _ HF'.out
     have p1:IntKind.i64.wrap (16*(k:Int))=16*(k:Int):=IntWalk.i64_in _ (by omega)
     have p2:IntKind.i64.wrap (16*(k:Int)+(j:Int))=16*(k:Int)+(j:Int):=IntWalk.i64_in _ (by omega)
     have p3:(16*(k:Int)+(j:Int)).toNat=16*k+j:=by omega
     have p4:(0:Int)<=16*(k:Int)+(j:Int):=by omega
     have p5:16*(k:Int)+(j:Int)<192:=by omega
     go_wp2
     go_still_tail 13,(by kernel_rfl)
     go_wp2
     go_roundw
     case rel=>
      refine⟨j+1,by omega,by go_num,(heap_setCell_other _ _ _ _ (by simp)).trans HR'.out,?_,?_⟩
      ·rw[<-ybvn bs k j hlt hjl,<-Hx.out]
       exact heap_setCell_same _ _ _ _ _ _ HF'.out
      ·exact HB'.drew.setCell (by simp) _
     case measure=>simp[intOf];omega
    ·obtain rfl:j=16:=by omega
     have p1:IntKind.i64.wrap (32*(k:Int))=32*(k:Int):=IntWalk.i64_in _ (by omega)
     have p2:IntKind.i64.wrap (64+32*(k:Int))=64+32*(k:Int):=IntWalk.i64_in _ (by omega)
     have p3:(64+32*(k:Int)).toNat=64+32*k:=by omega
     have p4:(0:Int)<=64+32*(k:Int):=by omega
     have p5:64+32*(k:Int)<=192:=by omega
     have p6:64+32*k ≠ cp:=by omega
     go_wp2
     go_still_tail 9,(by kernel_rfl)
     go_wp2_with fail
     have hlen:(u8s ((bs.drop (64+32*k)).take 32)).length=32:=by rw[qal,List.length_take,List.length_drop,HL.out];omega
     have hsrc:∀ (j:Nat) (v:Value),(u8s ((bs.drop (64+32*k)).take 32))[j]? = some v->wr.drew.cell? ((⟨g,o+(64+32*k),none⟩:Addr).add j)=some v:=fun j v hv=>by
      have hj:=(List.getElem?_eq_some_iff.1 hv).1
      have hadd:(⟨g,o+(64+32*k),none⟩:Addr).add j=⟨g,o+(64+32*k)+j,none⟩:=by unfold Addr.add;split <;> simp_all
      rw[hadd,show o+(64+32*k)+j=o+(64+32*k+j) by omega]
      refine Eq.trans (HB'.cell (p:=⟨g,o+(64+32*k+j),none⟩) hgw) ?_
      rw[HC.out _ (by omega)]
      unfold u8s at hv
      rw[List.getElem?_map,List.getElem?_take,if_pos (by omega),List.getElem?_drop]at hv
      rw[List.getD_eq_getElem?_getD]
      cases hq:bs[64+32*k+j]? with
      | none=>rw[hq]at hv;cases hv
      | some x=>rw[hq]at hv;simpa using hv
     rw[run_copy_row (P:=Tryz.prog) wr.drew 38 38 _ 5 (w.heap.size+1) (k*48+16) 32 32 ⟨g,o+(64+32*k),none⟩ (192 - (64+32*k)) (cp - (64+32*k)) (encF (upF bs k 16)) 80 (u8s ((bs.drop (64+32*k)).take 32)) ybpv (by kernel_rfl) HF'.out (by rw[hlen];show 32=min _ _;omega) hsrc (by rw[hlen,qak];omega) (qga _)]
     rw[ycad bs HU.out HL.out k hlt,hlen]
     have HR4:Hid ((wr.drew.setRow (w.heap.size+1) (encF (upF bs (k+1) 0))).heap[w.heap.size]? = some (.cells Z0 80 (0,0))):=qeb (w:=wr.drew) HR'.out _ _ (by omega)
     have HF4:Hid ((wr.drew.setRow (w.heap.size+1) (encF (upF bs (k+1) 0))).heap[w.heap.size+1]? = some (.cells (encF (upF bs (k+1) 0)) 80 (0,0))):=setRow_heap wr.drew _ _ _ _ _ HF'.out
     have HB4:Below w.heap.size w (wr.drew.setRow (w.heap.size+1) (encF (upF bs (k+1) 0))):=Below.setRow HB'.drew (by omega) _
     clear hsrc hlen p1 p2 p3 p4 p5 p6
     go_wp2
     go_roundw
     case rel=>exact⟨k+1,by omega,by go_num,HR4,HF4,HB4⟩
     case measure=>simp[intOf];omega
  ·obtain rfl:k=4:=by omega
   obtain⟨F,HF0⟩:∃ F,Hid (F=encF (foB bs)):=⟨_,rfl⟩
   have HF1:Hid (wr.heap[w.heap.size+1]? = some (.cells F 80 (0,0))):=by rw[HF0.out,<-upF_4];exact HF.out
   have HFS:Hid (F.size=192):=by rw[HF0.out];exact qak _
   have HFO:Hid (F.all (·.oneCell')=true):=by rw[HF0.out];exact qis _
   clear HF
   have hz:=HZ.out
   by_cases hr:qbn (foB bs)=0
   ·have hU:unpF bs=(foB bs,0):=by unfold unpF;rw[if_pos ⟨HL.out,hr⟩]
    have eX:F=X:=by rw[HX.out,hU,HF0.out]
    have ec:c=0:=by rw[Hc.out,hU]
    have HPK:Hid (∀ W:World,Calls Tryz.prog 76 #[.agg F] W (qlw (foB bs) W)):=fun W=>by rw[HF0.out];exact qos _ hr W
    subst eX ec
    clear hU hr
    go_wp2_with (refine wpList_load_row rfl 80 (.tmp 4) rfl (w.heap.size+1) rfl 80 F (0,0) _ HF1.out forT rfl (by rw[HFS.out];exact forI) ?_)
    refine (HPK.out _).mono ?_
    rintro e w2 ⟨u,rfl,hown,hb2⟩
    have HUB:Hid (qaf w2 u bs):=by
     have:=qai.of_owns hown
     rw[ybud HU.out HL.out]at this
     rw[<-HL.out]at this
     exact this
    have HF2:Hid (w2.heap[w.heap.size+1]? = some (.cells F 80 (0,0))):=qaa hb2 HF1.out
    have HR2:Hid (w2.heap[w.heap.size]? = some (.cells Z0 80 (0,0))):=qaa hb2 HR.out
    have hB2:=Below.step HB hb2
    have HBB:Hid (qaf w2 (.slice (some ⟨g,o,none⟩) 192 cp) bs):=qai.below HBA.out hB2
    clear hown hb2 HF1 HR HB
    go_wp2_with fail
    refine (qjg _ _ _ _ _ HUB.out HBB.out rfl (by rw[HL.out];omega)).mono ?_
    have HEQ:Hid (qtl bs bs=true):=by show _=_;unfold qtl;simp
    rw[HEQ.out]
    rintro e w3 ⟨rfl,hb3⟩
    have HF3:Hid (w3.heap[w.heap.size+1]? = some (.cells F 80 (0,0))):=qaa hb3 HF2.out
    have HR3:Hid (w3.heap[w.heap.size]? = some (.cells Z0 80 (0,0))):=qaa hb3 HR2.out
    have hB3:=Below.step hB2 hb3
    clear hb3 HF2 HR2 hB2
    go_wp2_with (first
     | (refine wpList_load_row rfl 80 (.tmp 4) rfl (w.heap.size+1) rfl 80 F (0,0) _ HF3.out forT rfl (by rw[HFS.out];exact forI) ?_)
     | (refine wpList_store_row rfl 80 (.tmp 2) (.tmp 58) rfl w.heap.size F rfl rfl 80 Z0 HR3.out (by rw[HFS.out];exact forI) (by rw[HFS.out,HZS.out]) HFO.out ?_))
    refine bodyPost_ret (qiz rfl _ _ w.heap.size 80 F (0,0) _ (.int .i64 0) rfl rfl (setRow_heap _ _ _ _ _ _ HR3.out) forT rfl (by rw[HFS.out];exact forI)) rfl ⟨rfl,?_⟩
    exact Below.setRow hB3 (Nat.le_refl _) _
   ·have hU:unpF bs=(qiq,3):=by unfold unpF;rw[if_neg fun h=>hr h.2]
    have eX:Z0=X:=by rw[HX.out,hU,HZ0.out]
    have ec:c=3:=by rw[Hc.out,hU]
    obtain⟨r,Hr⟩:∃ r,Hid (r=qbn (foB bs)):=⟨_,rfl⟩
    have hr1:(r == 0)=false:=by rw[Hr.out];simpa using hr
    have hr2:(r != 0)=true:=by rw[Hr.out];simpa using hr
    have HPK:Hid (∀ W:World,Calls Tryz.prog 76 #[.agg F] W fun e w'=>e=.returned (.tuple #[.slice none 0 0,.int .i64 r])/\Below W.heap.size W w'):=fun W=>yboe _ F r HF0 Hr hr2 W
    subst eX ec
    clear hU hr
    go_wp2_with (refine wpList_load_row rfl 80 (.tmp 4) rfl (w.heap.size+1) rfl 80 F (0,0) _ HF1.out forT rfl (by rw[HFS.out];exact forI) ?_)
    refine (HPK.out _).mono ?_
    rintro e w2 ⟨rfl,hb2⟩
    have HR2:Hid (w2.heap[w.heap.size]? = some (.cells Z0 80 (0,0))):=qaa hb2 HR.out
    have hB2:=Below.step HB hb2
    clear hb2 HF1 HR HB
    go_wp2_with (first
     | (refine wpList_store_row rfl 80 (.tmp 2) (.tmp 57) rfl w.heap.size Z0 rfl rfl 80 Z0 HR2.out (by rw[HZS.out];exact forI) rfl HZ1.out ?_))
    refine bodyPost_ret (qiz rfl _ _ w.heap.size 80 Z0 (0,0) _ (.int .i64 3) rfl rfl (setRow_heap _ _ _ _ _ _ HR2.out) forT rfl (by rw[HZS.out];exact forI)) rfl ⟨rfl,?_⟩
    exact Below.setRow hB2 (Nat.le_refl _) _
def ybwu (v:Value) (n:Nat):Prop:=∀ p l c,v=.slice p l c->n<=c
theorem ybvk (v:Value) (bs:List Int) (w:World) (h:qaf w v bs) (hu:U8s bs) (hr:ybwu v bs.length) (hl:bs.length<=1000000):
  Calls Tryz.prog 83 #[v] w fun e w'=>e=.returned (.tuple #[.agg (encF (unpF bs).1),.int .i64 (unpF bs).2])/\Below w.heap.size w w':=by
 by_cases hn:bs.length=192
 ·obtain⟨g,o,c,rfl,hg,hc⟩:=ybgy h (by omega)
  have hcp:=hr _ _ _ rfl
  rw[hn]at h hc hcp ⊢
  exact ycac g o c bs w hg hc hn hu h hcp _ _ _ rfl rfl rfl
 ·have hU:unpF bs=(qiq,3):=by unfold unpF;rw[if_neg fun h=>hn h.1]
  rw[hU]
  exact ybvl v bs w h hn hl _ rfl
end Go.Proofs.YtpoglnpjadmbpaaGreatDoor
