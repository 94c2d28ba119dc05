/- Part of the proofs of FsLinks: the texts CkRead, Quota16, Quota17, CkBytes, LiftRunP. -/
import Derived.Test.YtpoglnpjadmbpaaGreatDoorKA14
set_option maxHeartbeats 16000000
set_option maxRecDepth 100000
namespace Go.Proofs.YtpoglnpjadmbpaaGreatDoor
open Go.RowKit
structure Rdr where
 T:TypeId
 u:Value
 fr:Nat
 fs:Nat
 rr:Value
 rs:Value
structure RdAt (w : World) (r : Rdr) (N : Nat -> List Int) (k : Nat) : Prop where
 n1 : ∀ W : World, (nilAhead 403 r.T r.u "Read").run Tryz.prog W = .ok (some false) W
 n2 : ∀ W : World, (nilAhead 403 r.T r.u "Size").run Tryz.prog W = .ok (some false) W
 m1 : ∀ W : World, (method 403 r.T r.u "Read").run Tryz.prog W = .ok (r.fr, r.rr) W
 m2 : ∀ W : World, (method 403 r.T r.u "Size").run Tryz.prog W = .ok (r.fs, r.rs) W
 c1:∀ (x:Value) (W:World),(callFunc r.fr #[r.rr,x]).run Tryz.prog W=.ok (.enter r.fr #[r.rr,x]) W
 c2:∀ W:World,(callFunc r.fs #[r.rs]).run Tryz.prog W=.ok (.enter r.fs #[r.rs]) W
 read:∀ w':World,Below w.heap.size w w'->∀ n:Nat,n<k->Calls Tryz.prog r.fr #[r.rr,.int .i64 (n:Int)] w' (qqw (N n) w')
 size:∀ w':World,Below w.heap.size w w'->Calls Tryz.prog r.fs #[r.rs] w' fun e w2=>e=.returned (.int .i64 (k:Int))/\Below w'.heap.size w' w2
 len:∀ n,n<k->(N n).length=64
 byte:∀ n,n<k->∀ x ∈ N n,0<=x/\x<=255
theorem RdAt.below {w w1:World} {r:Rdr} {N:Nat->List Int} {k:Nat} (h:RdAt w r N k) (hb:Below w.heap.size w w1):RdAt w1 r N k:=
 ⟨h.n1,h.n2,h.m1,h.m2,h.c1,h.c2,fun w' hk=>h.read w' (Below.step hb hk),fun w' hk=>h.size w' (Below.step hb hk),h.len,h.byte⟩
def rowB (bs:List Int) (i:Nat):Int × Int:=(bs.getD (3*i+1) 0,bs.getD (3*i+2) 0+bs.getD (3*i+3) 0*256)
def qfj (bs:List Int):List (Int × Int):=(List.range (bs.getD 0 0).toNat).map (rowB bs)
def qjq (bs:List Int):Prop:=bs.length=64/\bs.getD 0 0<=20/\qda (qfj bs)=0/\qfh (qfj bs).length (qfj bs)=bs
def qvm (bs:List Int) (w:World) (e:Ending) (w':World):Prop:=
 (qjq bs/\∃ v,e=.returned (.tuple #[v,.int .i64 0])/\qai w' v 2 (qfj bs).length (qbw (qfj bs))/\Below w.heap.size w w') \/
 (¬ qjq bs/\e=.returned (.tuple #[.slice none 0 0,.int .i64 3])/\Below w.heap.size w w')
theorem qxf (v:Value) (bs:List Int) (w:World) (h:qaf w v bs) (hn:bs.length ≠ 64) (hl:bs.length<=1000000):
  Calls Tryz.prog 37 #[v] w (qvm bs w):=by
 have _:=hl
 obtain⟨N,HN⟩:∃ N,Hid (N=bs.length):=⟨_,rfl⟩
 obtain⟨q,cp,hu⟩:∃ p cp,v=.slice p N cp:=by
  rw[HN.out]
  obtain⟨_,⟨h0,a0,c0,rfl⟩ | ⟨g,o,cap,rfl,hc⟩⟩:=h
  ·exact⟨a0,c0,by rw[h0]⟩
  ·exact⟨_,cap,rfl⟩
 subst hu
 rw[<-HN.out]at hl hn
 have hne:((N:Int) != 64)=true:=by rw[bne_iff_ne];omega
 have HB:Hid (¬ qjq bs):=fun hg=>hn (HN.out.trans hg.1)
 clear h hn
 go_enter Tryz.func37,Tryz.ntmps37
 go_wp2
 go_ret2
 exact Or.inr ⟨HB.out,rfl,Below.refl _ _⟩
theorem ybao (bs:List Int) (g off cap:Nat) (b0:Int) (w:World) (hc:w.cell? ⟨g,off,none⟩=some (.int .u8 b0)) (Hb:Hid (b0=bs.getD 0 0)) (h20:20<b0) (h255:b0<=255):
  Calls Tryz.prog 37 #[.slice (some ⟨g,off,none⟩) 64 cap] w (qvm bs w):=by
 have HB:Hid (¬ qjq bs):=fun hg=>by have:=hg.2.1;rw[<-Hb.out]at this;omega
 go_enter Tryz.func37,Tryz.ntmps37
 go_wp2
 go_ret2
 exact Or.inr ⟨HB.out,rfl,Below.refl _ _⟩
theorem qlk (l:List Int) (i:Nat) (h:i<l.length):l.getD i 0=l[i]:=by simp[h]
theorem ybvm (bs:List Int) (k:Nat) (x p q:Int) (h:rowB bs k=(x,p+q*256)):(List.range (k+1)).map (rowB bs)=(List.range k).map (rowB bs)++[(x,p+q*256)]:=by
 rw[List.range_succ,List.map_append,List.map_cons,List.map_nil,h]
theorem yban (bs : List Int) (g off cap : Nat) (N : Nat) (w : World) (hc : ∀ j (hj : j < bs.length), w.cell? ⟨g, off + j, none⟩ = some (.int .u8 bs[j])) (hn : bs.length = 64) (hx : ∀ x, x ∈ bs → 0 ≤ x ∧ x ≤ 255)
    (Hb : Hid (bs.getD 0 0 = (N : Int))) (hN : N ≤ 20) :
    Calls Tryz.prog 37 #[.slice (some ⟨g, off, none⟩) 64 cap] w (qvm bs w) := by
  have x0 : w.cell? ⟨g, off, none⟩ = some (.int .u8 (N : Int)) := by
    have := hc 0 (by omega)
    rw [← qlk bs 0 (by omega), Hb.out] at this
    exact this
  have HC := Lib.hid hc
  have HLN := Lib.hid hn
  have HX := Lib.hid hx
  have HRB : Hid (qfj bs = (List.range N).map (rowB bs)) := by show _ = _; unfold qfj; rw [Hb.out]; rfl
  have HRL : Hid ((qfj bs).length = N) := by show _ = _; rw [HRB.out]; simp
  clear hc hn hx
  obtain ⟨i0, hi, hz0, hz1, hz2⟩ := info_parts ybzm
  have HI := Lib.hid hi
  have HZ0 := Lib.hid hz0
  have HZ1 := Lib.hid hz1
  have HZ2 := Lib.hid hz2
  clear hi hz0 hz1 hz2
  have hgw : g < w.heap.size := block_lt_of_cell x0
  have sN : IntKind.i64.wrap (N : Int) = (N : Int) := IntWalk.i64_in _ (by omega)
  go_enter Tryz.func37, Tryz.ntmps37
  go_wp2
  go_loopw [4, 21] (fun o i wr => ∃ (k : Nat) (acc : List (Int × Int)), k ≤ N ∧ i = .int .i64 k ∧ Hid (acc = (List.range k).map (rowB bs)) ∧ acc.length = k ∧ Hid (wr.ownsRow w.heap.size 145 2 o acc.length (qbw acc)) ∧ Below w.heap.size w wr) (fun _ i _ => N - (intOf i).toNat)
  case atStart => exact ⟨0, [], by omega, rfl, rfl, rfl, World.ownsRow_nil _ _ _ _, Below.refl _ _⟩
  case round =>
    obtain ⟨k, acc, hk, rfl, HA, hal, HO, HB⟩ := hrel
    have hgr : g < wr.heap.size := Nat.lt_of_lt_of_le hgw HB.size
    by_cases hlt : k < N
    · have h1 : 3 * k + 1 < bs.length := by rw [HLN.out]; omega
      have h2 : 3 * k + 2 < bs.length := by rw [HLN.out]; omega
      have h3 : 3 * k + 3 < bs.length := by rw [HLN.out]; omega
      have e1 := HC.out _ h1
      have e2 := HC.out _ h2
      have e3 := HC.out _ h3
      have c1 := (HB.cell (block_lt_of_cell e1)).trans e1
      have c2 := (HB.cell (block_lt_of_cell e2)).trans e2
      have c3 := (HB.cell (block_lt_of_cell e3)).trans e3
      obtain ⟨r10, r11⟩ := HX.out _ (List.getElem_mem h1)
      obtain ⟨r20, r21⟩ := HX.out _ (List.getElem_mem h2)
      obtain ⟨r30, r31⟩ := HX.out _ (List.getElem_mem h3)
      have hrow : rowB bs k = (bs[3 * k + 1], bs[3 * k + 2] + bs[3 * k + 3] * 256) := by unfold rowB; rw [qlk _ _ h1, qlk _ _ h2, qlk _ _ h3]
      generalize bs[3 * k + 1] = x at *
      generalize bs[3 * k + 2] = p at *
      generalize bs[3 * k + 3] = q at *
      obtain ⟨y, Hy⟩ : ∃ y, Hid (y = p + q * 256) := ⟨_, rfl⟩
      have HA2 : Hid (acc ++ [(x, y)] = (List.range (k + 1)).map (rowB bs)) := by show _ = _; rw [ybvm bs k x p q hrow, ← HA.out, Hy.out]
      have s1 : IntKind.i64.wrap (3 * (k : Int)) = 3 * (k : Int) := IntWalk.i64_in _ (by omega)
      have s2 : IntKind.i64.wrap (3 * (k : Int) + 1) = 3 * (k : Int) + 1 := IntWalk.i64_in _ (by omega)
      have s3 : IntKind.i64.wrap (3 * (k : Int) + 2) = 3 * (k : Int) + 2 := IntWalk.i64_in _ (by omega)
      have s4 : IntKind.i64.wrap (3 * (k : Int) + 3) = 3 * (k : Int) + 3 := IntWalk.i64_in _ (by omega)
      have t2 : (3 * (k : Int) + 1).toNat = 3 * k + 1 := by omega
      have t3 : (3 * (k : Int) + 2).toNat = 3 * k + 2 := by omega
      have t4 : (3 * (k : Int) + 3).toNat = 3 * k + 3 := by omega
      have u2 : 0 ≤ 3 * (k : Int) + 1 := by omega
      have u3 : 0 ≤ 3 * (k : Int) + 2 := by omega
      have u4' : 0 ≤ 3 * (k : Int) + 3 := by omega
      have v2 : 3 * (k : Int) + 1 < 64 := by omega
      have v3 : 3 * (k : Int) + 2 < 64 := by omega
      have v4 : 3 * (k : Int) + 3 < 64 := by omega
      have w1 : IntKind.i64.wrap x = x := IntWalk.i64_in _ (by omega)
      have w2 : IntKind.i64.wrap p = p := IntWalk.i64_in _ (by omega)
      have w3 : IntKind.i64.wrap q = q := IntWalk.i64_in _ (by omega)
      have w4 : IntKind.i64.wrap (q * 256) = q * 256 := IntWalk.i64_in _ (by omega)
      have ho1 : bits .or .i64 p (q * 256) = y := by rw [ybnv _ _ r20 r21 r30 r31, Hy.out]
      have hL : acc.length ≤ 20 := by omega
      have hlt' := (HO.out.alloc (.cells #[.int .i64 x, .int .i64 y] 145)).lt
      have HLT := Lib.hid hlt'
      clear hlt' e1 e2 e3 hrow
      have ag : Value.ownBlock u4 ≠ some g := fun hq => by
        have h1 := (HLT.out g hq).1
        omega
      have AG := Lib.hid ag
      have HLTd : Hid (∀ q, Value.ownBlock u4 = some q → w.heap.size ≤ q) := fun q hq => (HLT.out q hq).1
      have hsz := HB.size
      clear ag x0
      go_wp2_with fail
      go_region_held3 (fun w' => w'.cell? ⟨g, off + (3 * k + 1), none⟩ = some (.int .u8 x) ∧ w'.cell? ⟨g, off + (3 * k + 2), none⟩ = some (.int .u8 p) ∧ w'.cell? ⟨g, off + (3 * k + 3), none⟩ = some (.int .u8 q))
        (first
          | go_keep
          | (go_split_ands
             refine ⟨?_, ?_, ?_⟩
             · (rw [hgrow.cell_far _ (by simp; omega) (Ne.symm AG.out)]; assumption)
             · (rw [hgrow.cell_far _ (by simp; omega) (Ne.symm AG.out)]; assumption)
             · (rw [hgrow.cell_far _ (by simp; omega) (Ne.symm AG.out)]; assumption)))
        ((refine step_append_lies _ (by rfl) _ _ _ (by rfl) w.heap.size 145 i0 _ 2 16 rowT HI.out HZ0.out HZ1.out HZ2.out rfl (by omega) u4 acc.length (qbw acc) (by rfl) ((HO.out.alloc _).drew)
            ⟨wr.heap.size, 0, none⟩ 1 1 [.int .i64 x, .int .i64 y] (by rfl) (by rfl) (World.news_of_block (cs := #[.int .i64 x, .int .i64 y]) (t := 145) (fr := (0, 0)) (heap_alloc_new wr _)) (by simp [Value.oneCell'])
            (by omega) (by unfold maxLen; omega) (by omega) (by simp; omega) (wr.heap.size + 1) (by simp) ?_; intro gg cap' w4 hown hgrow hat hltt))
      have HO4 : Hid (w4.ownsRow w.heap.size 145 2 (.slice (some ⟨gg, 0, none⟩) (k + 1) cap') (acc ++ [(x, y)]).length (qbw (acc ++ [(x, y)]))) := by
        show World.ownsRow _ _ _ _ _ _ _
        rw [qdm, List.length_append, ← hal]
        exact hown
      have HB4 : Below w.heap.size w w4 := Below.grown (qba (HB.alloc HB.size _) 1) hgrow (by simp [World.drewN]; omega) HLTd.out
      clear hown hgrow hat hltt s1 s2 s3 s4 w1 w2 w3
      go_wp2
      go_roundw
      case rel => exact ⟨k + 1, acc ++ [(x, y)], by omega, by go_num, HA2, by simp; omega, HO4, HB4⟩
      case measure => simp [intOf]; omega
    · have hkN : k = N := by omega
      have HAR : Hid (acc = qfj bs) := by show _ = _; rw [HA.out, HRB.out, hkN]
      have HRA : Hid (qai wr u4 2 (qfj bs).length (qbw (qfj bs))) := by have := qai.of_owns HO.out; rw [HAR.out] at this; exact this
      obtain ⟨q2, c2, ho, _⟩ := qat HO.out
      rw [hal] at ho
      subst ho
      clear hal HA HO
      subst hkN
      by_cases hr : qda (qfj bs) = 0
      · have HR := Lib.hid hr
        clear hr
        go_wp2_with fail
        refine (qut _ (qfj bs) _ HRA.out HR.out).mono ?_
        rintro e w4 ⟨g4, rfl, hg4, hh4, hb4⟩
        have hB4 := Below.step HB hb4
        have HBY : Hid (qaf w4 (.slice (some ⟨g4, 0, none⟩) 64 64) (qfh (qfj bs).length (qfj bs))) := ybgk (qng _ _ (by rw [HRL.out]; omega)) hh4
        have HR4 : Hid (qai w4 (.slice q2 k c2) 2 (qfj bs).length (qbw (qfj bs))) := qai.below HRA.out hb4
        have HB5 : Hid (qaf w4 (.slice (some ⟨g, off, none⟩) 64 cap) bs) := by
          refine ⟨by rw [qal]; omega, Or.inr ⟨g, off, cap, by rw [HLN.out], fun j x hx => ?_⟩⟩
          have hj : j < bs.length := by
            rcases Nat.lt_or_ge j bs.length with h | h
            · exact h
            · rw [List.getElem?_eq_none (by rw [qal]; omega)] at hx; cases hx
          rw [qcj _ _ hj] at hx
          cases hx
          have := HC.out j hj
          exact (hB4.cell (block_lt_of_cell this)).trans this
        have HPL : Hid ((qfh (qfj bs).length (qfj bs)).length = 64) := qng _ _ (by rw [HRL.out]; omega)
        obtain ⟨PB, HPB⟩ : ∃ PB, Hid (qfh (qfj bs).length (qfj bs) = PB) := ⟨_, rfl⟩
        rw [HPB.out] at HPL HBY
        clear hh4 hb4
        go_wp2_with fail
        refine (qdy _ _ _ bs _ HBY.out HB5.out (by rw [HPL.out, HLN.out]) (by rw [HPL.out]; omega)).mono ?_
        obtain ⟨q, Hq⟩ : ∃ q, Hid (eqB PB bs = q) := ⟨_, rfl⟩
        rw [Hq.out]
        rintro e w5 ⟨rfl, hb5⟩
        have hB5 := Below.step hB4 hb5
        have HR5 : Hid (qai w5 (.slice q2 k c2) 2 (qfj bs).length (qbw (qfj bs))) := qai.below HR4.out hb5
        clear hb5
        cases q with
        | true =>
          have HG : Hid (qjq bs) := ⟨HLN.out, by rw [Hb.out]; omega, HR.out, by rw [HPB.out]; exact of_decide_eq_true Hq.out⟩
          go_wp2
          go_ret2
          exact Or.inl ⟨HG.out, _, rfl, HR5.out, hB5⟩
        | false =>
          have HG : Hid (¬ qjq bs) := fun h => by
            have h2 := h.2.2.2
            rw [HPB.out] at h2
            exact absurd (decide_eq_true h2) (by have := Hq.out; unfold eqB at this; rw [this]; simp)
          go_wp2
          go_ret2
          exact Or.inr ⟨HG.out, rfl, hB5⟩
      · have HG : Hid (¬ qjq bs) := fun h => hr h.2.2.1
        obtain ⟨c, HCR⟩ : ∃ c, Hid (qda (qfj bs) = c) := ⟨_, rfl⟩
        have hc0 : (c != 0) = true := by rw [bne_iff_ne, ← HCR.out]; exact hr
        clear hr
        go_wp2_with fail
        refine (yboh _ (qfj bs) _ HRA.out (by rw [HRL.out]; omega) c HCR hc0).mono ?_
        rintro e w4 ⟨rfl, hb4⟩
        have hB4 := Below.step HB hb4
        clear hb4
        go_wp2
        go_ret2
        exact Or.inr ⟨HG.out, rfl, hB4⟩
theorem qte (v:Value) (bs:List Int) (w:World) (h:qaf w v bs) (hx:∀ x,x ∈ bs->0<=x/\x<=255) (hl:bs.length<=1000000):
  Calls Tryz.prog 37 #[v] w (qvm bs w):=by
 by_cases hn:bs.length=64
 ·obtain⟨_,⟨h0,_⟩ | ⟨g,off,cap,rfl,hc⟩⟩:=h
  ·omega
  ·have hc':∀ j (hj:j<bs.length),w.cell? ⟨g,off+j,none⟩=some (.int .u8 bs[j]):=fun j hj=>hc j _ (qcj bs j hj)
   rw[hn]
   have h0:=hx _ (List.getElem_mem (by omega:0<bs.length))
   by_cases h20:20<bs[0]
   ·exact ybao bs g off cap bs[0] w (hc' 0 (by omega)) (qlk bs 0 (by omega)).symm h20 h0.2
   ·exact yban bs g off cap bs[0].toNat w hc' hn hx (by show _=_;rw[qlk bs 0 (by omega)];omega) (by omega)
 ·exact qxf v bs w h hn hl
def qby (N:Nat->List Int) (p:Int):List Int:=if p=0 then List.replicate 64 0 else N p.toNat
def qdx (N:Nat->List Int) (P:List Int) (n:Nat):List Int:=(P.take n).flatMap (qby N)
def qbc (N:Nat->List Int) (P:List Int) (s:Int):List Int:=(P.flatMap (qby N)).take s.toNat
def qgd (P:List Int) (k:Nat):Prop:=∀ p ∈ P,0<=p/\p<(k:Int)
theorem qlf (N:Nat->List Int) (P:List Int) (n:Nat) (h:n<P.length):qdx N P (n+1)=qdx N P n++qby N P[n]:=by
 unfold qdx
 rw[List.take_add_one,List.getElem?_eq_getElem h,List.flatMap_append]
 simp
theorem qod {N:Nat->List Int} {k:Nat} (hN:∀ n,n<k->(N n).length=64) {p:Int} (h0:0<=p) (h1:p<(k:Int)):(qby N p).length=64:=by
 unfold qby
 split
 ·simp
 ·exact hN _ (by omega)
theorem qoe {N:Nat->List Int} {k:Nat} (hN:∀ n,n<k->(N n).length=64) {P:List Int} (hP:qgd P k):∀ n,n<=P.length->(qdx N P n).length=64*n
 | 0,_=>by simp[qdx]
 | n+1,h=>by
  have hp:=hP P[n] (List.getElem_mem (by omega))
  rw[qlf N P n (by omega),List.length_append,qoe hN hP n (by omega),qod hN hp.1 hp.2]
  omega
theorem qub (N:Nat->List Int) (P:List Int):qdx N P P.length=P.flatMap (qby N):=by unfold qdx;rw[List.take_length]
def qet (w:World) (B:Nat) (v:Value) (D:List Int):Prop:=∃ g cap cur,v=.slice (some ⟨g,0,none⟩) 64 cap/\D.length=64/\64<=cap/\B<=g/\w.heap[g]? = some (.cells cur 5 (0,0))/\cur.toList.take 64=u8s D
theorem qet.cell {w:World} {g _B _cap:Nat} {cur:Array Value} {D:List Int} (hD:D.length=64) (hh:w.heap[g]? = some (.cells cur 5 (0,0))) (ht:cur.toList.take 64=u8s D):∀ (j:Nat) (u:Value),(u8s D)[j]? = some u->w.cell? ((⟨g,0,none⟩:Addr).add j)=some u:=fun j u hj=>by
 have hadd:(⟨g,0,none⟩:Addr).add j=⟨g,j,none⟩:=by unfold Addr.add;split <;> simp_all
 have hjl:=(List.getElem?_eq_some_iff.1 hj).1
 rw[qal]at hjl
 rw[hadd,cell_of_row _ _ _ _ _ _ hh,<-Array.getElem?_toList]
 rw[<-ht,List.getElem?_take,if_pos (by omega)]at hj
 exact hj
theorem qxr {w:World} {r:Rdr} {N:Nat->List Int} {k:Nat} (h:RdAt w r N k) (kd m u g s l up:Int) (v:Value) (P:List Int) (hv:qao w v P) (hl:P.length<=8) (hP:qgd P k) (hs:0<=s) (hs1:s<=512):
  Calls Tryz.prog 57 #[.iface r.T r.u,.agg #[.int .i64 kd,.int .i64 m,.int .i64 u,.int .i64 g,.int .i64 s,.int .i64 l,.int .i64 up,v]] w
   (fun e w'=>∃ v',e=.returned v'/\w'.ownsRow (w.heap.size+1) 5 1 v' (qbc N P s).length (u8s (qbc N P s))/\Below w.heap.size w w'):=by
 have q1:=h.n1
 have q2:=h.m1
 have q3:=h.c1
 have HR:=Lib.hid h
 have HPI:=Lib.hid hP
 obtain⟨n,HN⟩:∃ n,Hid (P.length=n):=⟨_,rfl⟩
 have hn8:n<=8:=by rw[<-HN.out];exact hl
 obtain⟨p,cp,hvs,HP⟩:=qib hv
 rw[HN.out]at hvs HP
 subst hvs
 have HV:=Lib.hid hv
 clear h hv hP hl
 obtain⟨i0,hi0,hz0,hz1,hz2⟩:=info_parts qtd
 have HI0:=Lib.hid hi0
 have HIZ:=Lib.hid hz0
 have HI1:=Lib.hid hz1
 have HI2:=Lib.hid hz2
 clear hi0 hz0 hz1 hz2
 obtain⟨Z,HZ⟩:∃ Z,Hid (Z=List.replicate 64 (0:Int)):=⟨_,rfl⟩
 have hmk:∀ W:World,(Instr.makeSlice 38 (.int .i64 64) (.int .i64 64)).run Tryz.prog W=.ok (.slice (some ⟨W.heap.size,0,none⟩) 64 64) (W.alloc (.cells (u8s Z).toArray 5)):=fun W=>by
  rw[HZ.out];exact qht 64 64 rfl (by omega) W
 go_enter Tryz.func57,Tryz.ntmps57
 go_wp2
 obtain⟨w1,HW1⟩:∃ x,Hid (w.alloc (.cells #[.int .i64 kd,.int .i64 m,.int .i64 u,.int .i64 g,.int .i64 s,.int .i64 l,.int .i64 up,.slice p n cp] 103)=x):=⟨_,rfl⟩
 rw[HW1.out]
 have HB1:Hid (Below w.heap.size w w1):=by show _;rw[<-HW1.out];exact (Below.refl _ _).alloc (Nat.le_refl _) _
 have HN1:Hid (w1.heap[w.heap.size]? = some (.cells #[.int .i64 kd,.int .i64 m,.int .i64 u,.int .i64 g,.int .i64 s,.int .i64 l,.int .i64 up,.slice p n cp] 103 (0,0))):=by show _=_;rw[<-HW1.out];exact heap_alloc_new _ _
 have HS1:Hid (w1.heap.size=w.heap.size+1):=by show _=_;rw[<-HW1.out];simp
 go_loopw [5,14] (fun o i wr=>∃ j:Nat,j<=n/\i=.int .i64 j/\Hid (wr.ownsRow (w.heap.size+1) 5 1 o (64*j) (u8s (qdx N P j)))/\Hid (Below w1.heap.size w1 wr)) (fun _ i _=>n - (intOf i).toNat)
 case atStart=>exact⟨0,Nat.zero_le _,rfl,World.ownsRow_nil _ _ _ _,Below.refl _ _⟩
 case round=>
  obtain⟨j,hj,rfl,HO,HB⟩:=hrel
  by_cases hlt:j<n
  ·obtain⟨gp,op,rfl,hc⟩:=HP.out (by omega)
   have hjl:j<P.length:=by rw[HN.out];exact hlt
   have hpj:=HPI.out P[j] (List.getElem_mem hjl)
   have cj:=hc j _ (qdn P j hjl)
   have hgl:=block_lt_of_cell cj
   have cj:=((Below.step HB1.out (HB.out)).cell (p:=⟨gp,op+j,none⟩) hgl).trans cj
   have HSN:=Lib.hid (qlf N P j hjl)
   have HBL:=Lib.hid (qod HR.out.len hpj.1 hpj.2)
   obtain⟨x,Hx⟩:∃ x,Hid (P[j]'hjl=x):=⟨P[j]'hjl,rfl⟩
   rw[Hx.out]at hpj cj HSN HBL
   have hlt2:(j:Int)<(n:Int):=by omega
   go_upto_if 20 with fail
   go_cut [8] (fun b wx=>Hid (qet wx (w.heap.size+1) b (qby N x))/\Hid (Below wr.heap.size wr wx))
   case first=>
    by_cases hx0:x=0
    ·have b0:(x != 0)=false:=by simp[hx0]
     have HBN:Hid (qby N x=Z):=by show _=_;rw[HZ.out,hx0];rfl
     have HZL:Hid (Z.length=64):=by show _=_;rw[HZ.out];simp
     subst hx0
     go_wp2
     go_meet
     case rel=>
      refine⟨?_,?_⟩
      ·rw[HBN.out]
       exact⟨_,_,_,rfl,HZL.out,Nat.le_refl _,Nat.le_trans (Nat.le_of_eq HS1.out.symm) HB.out.size,heap_alloc_new _ _,by rw[List.take_of_length_le (by rw[List.toList_toArray,qal,HZL.out];exact Nat.le_refl _)]⟩
      ·exact (Below.refl _ _).alloc (Nat.le_refl _) _
    ·have b0:(x != 0)=true:=by simpa using hx0
     obtain⟨y,Hy⟩:∃ y:Nat,Hid (x=(y:Int)):=⟨x.toNat,by show _=_;omega⟩
     have HBN:Hid (qby N x=N y):=by show _=_;unfold qby;rw[if_neg hx0,Hy.out];rfl
     have hyk:y<k:=by have:=Hy.out;omega
     have HRD:=Lib.hid (HR.out.read (wr.alloc (.cells (u8s Z).toArray 5)) (Below.step (Below.step HB1.out HB.out) ((Below.refl _ _).alloc (Nat.le_refl _) _)) y hyk)
     have HNL:=Lib.hid (HR.out.len y hyk)
     rw[<-Hy.out]at HRD
     clear hx0
     go_wp2_with fail
     refine HRD.out.mono ?_
     rintro e w3 ⟨v3,rfl,hv3⟩
     obtain⟨g3,cap3,cur3,rfl,hcap3,hh3,ht3,hb3⟩:=hv3
     rw[HNL.out]at hcap3 ht3 ⊢
     have HH3:=Lib.hid hh3
     have HT3:=Lib.hid ht3
     have HB3:=Lib.hid hb3
     clear hh3 ht3 hb3
     go_wp2
     go_meet
     case rel=>
      refine⟨?_,Below.step ((Below.refl _ _).alloc (Nat.le_refl _) _) HB3.out⟩
      rw[HBN.out]
      exact⟨g3,cap3,cur3,rfl,HNL.out,hcap3.2,Nat.le_trans (Nat.le_trans (Nat.le_of_eq HS1.out.symm) (Nat.le_trans HB.out.size (by simp))) hcap3.1,HH3.out,HT3.out⟩
   case rest=>
    obtain⟨⟨gb,cb,cub,rfl,hbl,hcb,hgb,hhb,htb⟩,HBX⟩:=hcut
    have HCB:=Lib.hid (qet.cell (_B:=w.heap.size+1) (_cap:=cb) hbl hhb htb)
    have HOX:=Lib.hid (qap HO.out HBX.out)
    have HGB:=Lib.hid hgb
    clear hhb htb hgb cj
    have hj8:j<=8:=by omega
    have HUL:Hid ((u8s (qby N x)).length=64):=by show _=_;rw[qal,HBL.out]
    have HU1:=Lib.hid (qga (qby N x))
    have HSX:Hid (w.heap.size+1<=wc.heap.size):=Nat.le_trans (Nat.le_of_eq HS1.out.symm) (Nat.le_trans HB.out.size HBX.out.size)
    go_wp2_with (at_builtin;refine wpList_append_own _ rfl _ _ 38 rfl (w.heap.size+1) 5 i0 (.int .u8 0) 1 1 u8sT HI0.out HIZ.out HI1.out HI2.out rfl (by decide) _ _ _ rfl HOX.out ⟨gb,0,none⟩ 64 cb (u8s (qby N x)) rfl (by rw[HUL.out]) HCB.out HU1.out (by unfold maxLen;omega) (by omega) HSX.out ?_;intro v5 w5 hown hgrow hnil)
    have HO5:Hid (w5.ownsRow (w.heap.size+1) 5 1 v5 (64*(j+1)) (u8s (qdx N P (j+1)))):=by
     show _
     rw[HSN.out,qbj,show 64*(j+1)=64*j+64 by omega]
     exact hown
    have HB5:Hid (Below w1.heap.size w1 w5):=Below.grown (Below.step HB.out HBX.out) hgrow (Nat.le_trans HB.out.size HBX.out.size) (fun q hq=>by rw[HS1.out];exact (HOX.out.lt q hq).1)
    clear hown hgrow hnil
    go_wp2
    go_roundw
    case rel=>exact⟨j+1,by omega,by go_num,HO5,HB5⟩
    case measure=>simp[intOf];omega
  ·obtain rfl:j=n:=by omega
   have hlt2:¬ ((j:Int)<(j:Int)):=by omega
   have HF:Hid (wr.cell? ⟨w.heap.size,4,none⟩=some (.int .i64 s)):=cell_of_row _ _ _ _ _ _ (qaa HB.out HN1.out)
   obtain⟨L,HL⟩:∃ L:Nat,Hid (64*j=L):=⟨_,rfl⟩
   obtain⟨t,HT⟩:∃ t:Nat,Hid (s=(t:Int)):=⟨s.toNat,by show _=_;omega⟩
   have hF:=HF.out
   rw[HT.out]at hF
   rw[HL.out]at HO
   have HBA:Hid (qdx N P j=P.flatMap (qby N)):=by show _=_;rw[<-HN.out];exact qub N P
   have HLL:Hid ((qdx N P j).length=L):=by show _=_;rw[<-HL.out];exact qoe HR.out.len HPI.out j (by rw[HN.out];exact Nat.le_refl _)
   have HRES:Hid (qbc N P s=(qdx N P j).take t):=by show _=_;unfold qbc;rw[<-HBA.out,HT.out];rfl
   have HBW:Hid (Below w.heap.size w wr):=Below.step HB1.out HB.out
   obtain⟨ho0,⟨hv,h0⟩ | ⟨gq,cq,cur,rfl,hg',hh,hcp,hf1,hf2,ht⟩⟩:=id HO.out
   ·subst hv
    have hL0:L=0:=by have:=HLL.out;omega
    subst hL0
    go_wp2
    all_goals (go_ret;refine⟨_,rfl,?_,HBW.out⟩)
    all_goals (
     rw[HRES.out]
     have e:(qdx N P j).take t=[]:=by
      have:=HLL.out
      rw[List.length_eq_zero_iff]at this
      rw[this];simp
     rw[e]
     exact World.ownsRow_nil _ _ _ _)
   ·have HH:=Lib.hid hh
    have HTK:=Lib.hid ht
    have HF1:=Lib.hid hf1
    have HF2:=Lib.hid hf2
    clear hh ht hf1 hf2 ho0
    have HFIN:∀ x:Nat,x<=L->(qbc N P s)=(qdx N P j).take x->wr.ownsRow (w.heap.size+1) 5 1 (.slice (some ⟨gq,0,none⟩) x cq) (qbc N P s).length (u8s (qbc N P s)):=fun x hx e=>by
     have hxl:((qdx N P j).take x).length=x:=by rw[List.length_take,HLL.out];omega
     rw[e,hxl]
     refine⟨by rw[qal,hxl];omega,Or.inr ⟨gq,cq,cur,rfl,hg',HH.out,by omega,HF1.out,HF2.out,?_⟩⟩
     have e2:cur.toList.take (x*1)=(cur.toList.take (L*1)).take x:=by rw[List.take_take];congr 1;omega
     rw[e2,HTK.out,qdf]
    have HFN:=Lib.hid HFIN
    clear HFIN
    by_cases htl:t<=L
    ·have e1:(t:Int)<=(L:Int):=by omega
     have e2:(t:Int)<=(cq:Int):=by omega
     have e3:t<=cq:=by omega
     have e4:¬ ((L:Int)<(t:Int)):=by omega
     have e5:¬ L<t:=by omega
     go_wp2
     all_goals go_ret
     all_goals first | exact⟨_,rfl,HFN.out t htl HRES.out,HBW.out⟩ | (refine⟨_,rfl,HFN.out L (Nat.le_refl _) ?_,HBW.out⟩;rw[HRES.out];congr 1;omega)
    ·have e1:¬ (t:Int)<=(L:Int):=by omega
     have e3:L<=cq:=by omega
     have e2:(L:Int)<=(cq:Int):=by omega
     have e4:(L:Int)<(t:Int):=by omega
     have e5:L<t:=by omega
     go_wp2
     all_goals go_ret
     all_goals refine⟨_,rfl,HFN.out L (Nat.le_refl _) ?_,HBW.out⟩
     all_goals rw[HRES.out,List.take_of_length_le (by rw[HLL.out];omega),List.take_of_length_le (by rw[HLL.out];omega)]
end Go.Proofs.YtpoglnpjadmbpaaGreatDoor
namespace Go.Proofs.YtpoglnpjadmbpaaGreatDoor
def doE (st:Dk) (x:Rb):Dk:=if x.2.2=true then qfu st else qcb st x.1 x.2.1
def runE (st:Dk) (l:List Rb):Dk:=l.foldl doE st
theorem qsr (st:Dk) (l:List Rb) (x:Rb):runE st (l++[x])=doE (runE st l) x:=by unfold runE;rw[List.foldl_append];rfl
theorem qnl (st:Dk) (a b:List Rb):runE st (a++b)=runE (runE st a) b:=by unfold runE;rw[List.foldl_append]
theorem qvu (st:Dk) (x:Rb):(doE st x).W.length<=st.W.length+1:=by
 unfold doE;split
 ·have:=ybsb st;omega
 ·exact qqq _ _ _
theorem ybfy (st:Dk) (l:List Rb):(runE st l).W.length<=st.W.length+l.length:=by
 induction l generalizing st with
 | nil=>exact Nat.le_refl _
 | cons x l ih=>
  have h1:=ih (doE st x)
  have h2:=qvu st x
  show (runE (doE st x) l).W.length<=_
  rw[List.length_cons];omega
structure On (st : Dk) (k : Nat) : Prop where
 fu:st.fu = -1
 n:st.N.length=64*k
def RbOk (k:Nat) (x:Rb):Prop:=x.2.2=true\/(x.1<k/\x.2.1.length=64)
def WrOk (k:Nat) (x:Wr):Prop:=x.1<k/\x.2.length=64
theorem qmk {st:Dk} {k:Nat} (h:On st k):qfu st={ S:=st.N,N:=st.N,W:=[],fu:= -1 }:=by
 unfold qfu;rw[if_neg (by rw[h.fu];decide),h.fu];rfl
theorem qqr {st:Dk} {k:Nat} (h:On st k) (n:Nat) (D:List Int):qcb st n D={ S:=st.S,N:=putS st.N n D,W:=st.W++[(n,D)],fu:= -1 }:=by
 unfold qcb;rw[if_neg (by rw[h.fu];decide),h.fu];rfl
theorem On.flush {st:Dk} {k:Nat} (h:On st k):On (qfu st) k:=by rw[qmk h];exact⟨rfl,h.n⟩
theorem On.do {st:Dk} {k:Nat} (h:On st k) {x:Rb} (hx:RbOk k x):On (doE st x) k:=by
 unfold doE
 split
 ·exact h.flush
 ·rename_i hb
  rcases hx with hx | ⟨h1,h2⟩
  ·exact absurd hx hb
  ·rw[qqr h];exact⟨rfl,qgk h.n h1 h2⟩
theorem On.run {k:Nat} {l:List Rb}:∀ {st:Dk},On st k->(∀ x ∈ l,RbOk k x)->On (runE st l) k:=by
 induction l with
 | nil=>intro st h _;exact h
 | cons x l ih=>intro st h hl;exact ih (h.do (hl x (by simp))) fun y hy=>hl y (by simp[hy])
theorem ybsi (k:Nat):On (qbr k) k:=⟨rfl,by unfold qbr;simp⟩
def qtn (N:List Int) (P:List Wr):List Int:=P.foldl (fun N x=>putS N x.1 x.2) N
theorem ybhp (N:List Int) (P:List Wr) (x:Wr):qtn N (P++[x])=putS (qtn N P) x.1 x.2:=by unfold qtn;rw[List.foldl_append];rfl
theorem qrn {N:List Int} {k:Nat} (P:List Wr) (hN:N.length=64*k) (hP:∀ x ∈ P,WrOk k x):(qtn N P).length=64*k:=by
 induction P generalizing N with
 | nil=>exact hN
 | cons x P ih=>
  have:=hP x (by simp)
  exact ih (qgk hN this.1 this.2) fun y hy=>hP y (by simp[hy])
theorem ybhq {N:List Int} {k:Nat} {P:List Wr} (hN:N.length=64*k) (hP:∀ x ∈ P,WrOk k x) (m:Nat) (hm:m<k):∀ j,j<=P.length->sec (qtn N (P.take j)) m=(qfd (P.take j) m).getD (sec N m):=by
 intro j
 induction j with
 | zero=>intro _;rfl
 | succ j ih=>
  intro hj
  have hjl:j<P.length:=by omega
  have hx:=hP P[j] (List.getElem_mem hjl)
  have hl:=qrn (P.take j) hN fun y hy=>hP y (List.mem_of_mem_take hy)
  rw[<-List.take_append_getElem hjl,ybhp,qkm]
  by_cases e:P[j].1=m
  ·rw[if_pos e,<-e,qfw hl hx.1 hx.2];rfl
  ·rw[if_neg e,qfa hl hx.1 hm hx.2 (fun h=>e h.symm)]
   exact ih (by omega)
theorem qyh {N:List Int} {k:Nat} {P:List Wr} (hN:N.length=64*k) (hP:∀ x ∈ P,WrOk k x) (m:Nat) (hm:m<k):sec (qtn N P) m=(qfd P m).getD (sec N m):=by
 have:=ybhq hN hP m hm P.length (Nat.le_refl _)
 rwa [List.take_length]at this
theorem qiy {k:Nat} {P:List Wr} {h:Nat} (hh:h<256) (hP:∀ x ∈ P,WrOk k x):∀ x ∈ qeq P h,WrOk k x:=by
 intro x hx
 exact hP _ (qmy P x.1 x.2 ((qij P h hh x).1 hx).2)
theorem qok {N:List Int} {k:Nat} {P:List Wr} {h:Nat} (hk:k<=256) (hh:h<256) (hN:N.length=64*k) (hP:∀ x ∈ P,WrOk k x):qtn N (qeq P h)=qtn N P:=by
 refine ybzp (qrn _ hN (qiy hh hP)) (qrn _ hN hP) fun m hm=>?_
 rw[qyh hN (qiy hh hP) m hm,qyh hN hP m hm,ybib P h m hh (by omega)]
theorem qrf {k:Nat} {P:List Wr} (hP:∀ x ∈ P,WrOk k x):∀ x ∈ emit P,RbOk k x:=by
 intro x hx
 obtain⟨y,hy,rfl⟩:=List.mem_map.1 hx
 exact Or.inr (hP y hy)
theorem qnn {k:Nat} {P:List Wr}:∀ {st:Dk},On st k->(∀ x ∈ P,WrOk k x)->(runE st (emit P)).N=qtn st.N P/\(runE st (emit P)).S=st.S:=by
 induction P with
 | nil=>intro st _ _;exact⟨rfl,rfl⟩
 | cons x P ih=>
  intro st h hP
  have hx:=hP x (by simp)
  have e:doE st (x.1,x.2,false)=qcb st x.1 x.2:=by unfold doE;rw[if_neg (by simp)]
  have h1:=ih (st:=doE st (x.1,x.2,false)) (h.do (Or.inr hx)) fun y hy=>hP y (by simp[hy])
  show (runE (doE st (x.1,x.2,false)) (emit P)).N=qtn (putS st.N x.1 x.2) P/\(runE (doE st (x.1,x.2,false)) (emit P)).S=_
  rw[h1.1,h1.2,e,qqr h]
  exact⟨rfl,rfl⟩
theorem ybox {k:Nat} {l:List Rb}:∀ {st st':Dk},On st k->On st' k->st.N=st'.N->(∀ x ∈ l,RbOk k x)->(runE st l).N=(runE st' l).N:=by
 induction l with
 | nil=>intro st st' _ _ e _;exact e
 | cons x l ih=>
  intro st st' h h' e hl
  have hx:=hl x (by simp)
  refine ih (h.do hx) (h'.do hx) ?_ fun y hy=>hl y (by simp[hy])
  unfold doE
  split
  ·rw[qmk h,qmk h'];exact e
  ·rw[qqr h,qqr h'];show putS _ _ _=putS _ _ _;rw[e]
theorem ybqc {k:Nat} {P:List Wr} {r:List Rb} (h:∀ x ∈ emit P++r,RbOk k x):∀ x ∈ P,WrOk k x:=by
 intro x hx
 have:=h (x.1,x.2,false) (List.mem_append_left _ (List.mem_map.2 ⟨x,hx,rfl⟩))
 rcases this with h | h
 ·cases h
 ·exact h
theorem yboy {k:Nat} (hk:k<=256) (l:List Rb) (h:Nat) (hh:h<256) (st:Dk) (hs:On st k) (hl:∀ x ∈ l,RbOk k x):(runE st (qdk [] h l)).N=(runE st l).N/\∀ x ∈ qdk [] h l,RbOk k x:=by
 have key:∀ (j:Nat) (l:List Rb) (h:Nat) (st:Dk),h<256->l.length<=j->On st k->(∀ x ∈ l,RbOk k x)->(runE st (qdk [] h l)).N=(runE st l).N/\∀ x ∈ qdk [] h l,RbOk k x:=by
  intro j
  induction j with
  | zero=>
   intro l h st hh hlen hs hl
   have:l=[]:=by cases l with | nil=>rfl | cons a l=>simp at hlen
   subst this
   have e:qdk [] h []=emit (qeq [] h):=rfl
   rw[e,(qnn hs (qiy hh (fun x hx=>by simp at hx))).1,qok hk hh hs.n (fun x hx=>by simp at hx)]
   exact⟨rfl,qrf (qiy hh (fun x hx=>by simp at hx))⟩
  | succ j ih=>
   intro l h st hh hlen hs hl
   rcases ybfr l with⟨P,rfl⟩ | ⟨P,m,D,r,rfl,hr⟩
   ·have hP:∀ x ∈ P,WrOk k x:=ybqc (r:=[]) (by simpa using hl)
    rw[qlm,List.nil_append,(qnn hs (qiy hh hP)).1,(qnn hs hP).1,qok hk hh hs.n hP]
    exact⟨rfl,qrf (qiy hh hP)⟩
   ·have hP:∀ x ∈ P,WrOk k x:=ybqc hl
    have hr2:∀ x ∈ r,RbOk k x:=fun x hx=>hl x (by simp[hx])
    have o1:=hs.run (qrf (qiy hh hP))
    have o2:=hs.run (qrf hP)
    have h1:=ih r (qmt P h) (qfu (runE st (emit (qeq P h)))) (qmu P h hh) (by omega) o1.flush hr2
    rw[qop,List.nil_append]
    refine⟨?_,fun x hx=>?_⟩
    ·rw[qnl,qnl]
     show (runE (qfu (runE st (emit (qeq P h)))) _).N=(runE (qfu (runE st (emit P))) _).N
     rw[h1.1]
     refine ybox o1.flush o2.flush ?_ hr2
     rw[qmk o1,qmk o2]
     show (runE st (emit (qeq P h))).N=(runE st (emit P)).N
     rw[(qnn hs (qiy hh hP)).1,(qnn hs hP).1,qok hk hh hs.n hP]
    ·rcases List.mem_append.1 hx with hx | hx
     ·exact qrf (qiy hh hP) x hx
     ·rcases List.mem_cons.1 hx with rfl | hx
      ·exact Or.inl rfl
      ·exact h1.2 x hx
 exact key l.length l h st hh (Nat.le_refl _) hs hl
end Go.Proofs.YtpoglnpjadmbpaaGreatDoor
