/- Concat of three lists of requests. -/
import Derived.Test.YthkcnihmfeilgaaRqRow
import Derived.Lib.AppendZerosOnto
import Derived.Deep.DeepAppendWide
namespace Go.Proofs.Ythkcnihmfeilgaa
open Go.RowKit

/-- Requests of the call's own: the row since b, what they hold since B. -/
def RqsTwo (w : World) (b B : Nat) (v : Value) (L : List Rb) : Prop := ∃ E : List Rq, E.map rab = L ∧ w.ownsRow b 50 3 v E.length (rcells E) ∧ ∀ x ∈ E, RqNew w B x
theorem RqsTwo.below {w w' : World} {b B : Nat} {v : Value} {L : List Rb} (h : RqsTwo w b B v L) (hb : Below w.heap.size w w') : RqsTwo w' b B v L := by
  obtain ⟨E, h1, h2, h3⟩ := h
  exact ⟨E, h1, (owns_keep h2 fun q hq => hb.block q (h2.lt q hq).2), fun x hx => (h3 x hx).keep fun i c _ hi => hb.block i (heap_lt hi)⟩
theorem RqsOwn.two {w : World} {b B : Nat} {v : Value} {L : List Rb} (h : RqsOwn w b v L) (hB : B ≤ b) : RqsTwo w b B v L := by
  obtain ⟨E, h1, h2, h3⟩ := h
  exact ⟨E, h1, h2, fun x hx => (h3 x hx).mono hB⟩
theorem RqsTwo.own {w : World} {b B : Nat} {v : Value} {L : List Rb} (h : RqsTwo w b B v L) (hB : B ≤ b) : RqsOwn w B v L := by
  obtain ⟨E, h1, h2, h3⟩ := h
  refine ⟨E, h1, ?_, h3⟩
  obtain ⟨e1, h | ⟨g, cap, cur, hv, hg, r⟩⟩ := h2
  · exact ⟨e1, Or.inl h⟩
  · exact ⟨e1, Or.inr ⟨g, cap, cur, hv, Nat.le_trans hB hg, r⟩⟩
/-- Requests stay while another row grows. -/
theorem RqsTwo.grown {w w' : World} {b B : Nat} {v : Value} {L : List Rb} {row : Option Nat} (h : RqsTwo w b B v L) (hg : w.grownBy w' row) (hr : ∀ q, row = some q → v.ownBlock ≠ some q ∧ ∀ c f, w.heap[q]? ≠ some (.cells c 5 f)) : RqsTwo w' b B v L := by
  obtain ⟨E, h1, h2, h3⟩ := h
  have hlt := h2.lt
  exact ⟨E, h1, owns_keep h2 fun q hq => hg.block q (hlt q hq).2 (fun e => (hr q e.symm).1 hq), fun x hx => (h3 x hx).keep fun i c _ hi => hg.block i (heap_lt hi) (fun e => (hr i e.symm).2 c (0, 0) hi)⟩
theorem RqsTwo.type {w : World} {b B : Nat} {v : Value} {L : List Rb} (h : RqsTwo w b B v L) : ∀ q, v.ownBlock = some q → ∀ c f, w.heap[q]? ≠ some (.cells c 5 f) := by
  intro q hq c f hc
  obtain ⟨E, _, h2, _⟩ := h
  exact own_ne h2 hc (by decide) hq

theorem wpList_append_two {w : World} {ops : Array Oper} {rest : List Oper} {o : Oper} {a : Act} {Q : Exit → Act → World → Prop} (hgd : o.guard = none) (s x : Operand)
    (ho : o.op = .call { callee := .builtin .append, args := #[s, x], argTypes := #[44, 44] }) (v pv : Value) (b b2 B : Nat) (O L : List Rb) (hs : a.eval s = v) (hx : a.eval x = pv)
    (hO : RqsTwo w b B v O) (hP : RqsTwo w b2 B pv L) (hb2 : b ≤ w.heap.size) (hlen : O.length + L.length ≤ 1000000)
    (h : ∀ v' w', RqsTwo w' b B v' (O ++ L) → w.grownBy w' v.ownBlock → wpList Try.prog ops Q rest (a.put o.dst v') w') : wpList Try.prog ops Q (o :: rest) a w := by
  obtain ⟨i0, hi0, hz0, hz1, hz2⟩ := info_parts reqInfo
  obtain ⟨E, hE, h1, h2⟩ := hO
  obtain ⟨E2, hE2, h3, h4⟩ := hP
  have hl1 := rqs_len hE
  have hl2 := rqs_len hE2
  have h3' := h3
  obtain ⟨_, ⟨rfl, h0⟩ | ⟨g, cap, cur, rfl, hg, hh, hc, hm, hsz, ht⟩⟩ := h3
  · have e2 : E2 = [] := List.length_eq_zero_iff.1 h0
    subst e2
    refine wpList_append_own_none hgd s x 44 ho b 50 i0 3 reqsT hi0 v E.length (rcells E) hs h1 hx (h v w ?_ ⟨rfl, rfl, rfl, Nat.le_refl _, fun _ _ _ => rfl⟩)
    refine ⟨E, ?_, h1, h2⟩
    rw [hE]
    have : L = [] := by rw [← hE2]; rfl
    rw [this, List.append_nil]
  · refine wpList_append_own w hgd s x 44 ho b 50 i0 (.agg #[.int .i64 0, .slice none 0 0, .bool false]) 3 40 reqsT hi0 hz0 hz1 hz2 rfl (by decide) v E.length (rcells E) hs h1 ⟨g, 0, none⟩ E2.length cap (rcells E2) hx (rcells_len E2) (fun j u hu => ?_) (rqs_ones h4) (by unfold maxLen; omega) (by omega) hb2 fun v' w' hown hgrow _ => h v' w' ?_ hgrow
    · have hadd : (⟨g, 0, none⟩ : Addr).add j = ⟨g, j, none⟩ := by unfold Addr.add; split <;> simp_all
      rw [hadd, cell_of_row _ _ _ _ _ _ hh]
      rw [← ht, List.getElem?_take] at hu
      split at hu
      · simpa using hu
      · cases hu
    · have hkeep : ∀ (i : Nat) (c : Array Value), w.heap[i]? = some (.cells c 5 (0, 0)) → w'.heap[i]? = w.heap[i]? := fun i c hi => hgrow.block i (heap_lt hi) (fun e => own_ne h1 hi (by decide) e.symm)
      refine ⟨E ++ E2, by rw [List.map_append, hE, hE2], by rw [List.length_append, rcells_append]; exact hown, fun y hy => ?_⟩
      rcases List.mem_append.1 hy with hy | hy
      · exact (h2 y hy).keep fun i c _ hi => hkeep i c hi
      · exact (h4 y hy).keep fun i c _ hi => hkeep i c hi

/-- append of n zero requests to none. -/
theorem run_grow_nil (n : Nat) (h0 : 0 < n) (hn : n ≤ 1000) (w : World) : ∃ (G : Nat) (cs : Array Value), n ≤ G ∧ G ≤ maxLen ∧ cs.size = G * 3 ∧ ∀ ty, (Builtin.append_ #[44, 3] ty #[.slice none 0 0, .int .i64 (n : Int)]).run Try.prog w =
    .ok (.slice (some ⟨w.heap.size, 0, none⟩) n G) (w.drew.alloc (.cells cs 50)) := by
  obtain ⟨i0, hi0, hz0, hz1, hz2⟩ := info_parts reqInfo
  have hge := grownCap_ge w n 0 50
  refine ⟨grownCap w n 0 50, ([] : List Value).toArray ++ Builtin.zeroCells (Value.agg #[.int .i64 0, .slice none 0 0, .bool false]).cells n ++ Builtin.zeroCells (Value.agg #[.int .i64 0, .slice none 0 0, .bool false]).cells (grownCap w n 0 50 - n), hge, grownCap_le_maxLen _ _ _ _ (by unfold maxLen; omega), ?_, fun ty => ?_⟩
  · rw [Array.size_append, Array.size_append, size_zeroCells, size_zeroCells]
    show 0 + n * 3 + (grownCap w n 0 50 - n) * 3 = _
    omega
  · have h := Lib.run_append_grow_zeros (P := Try.prog) w 44 3 ty 50 i0 _ .i64 .i64 reqsT (by kernel_rfl) hi0 hz0 none 0 0 [] (run_firstCells_none _ _ _ _ _) n h0 (by rw [hz1]; decide) (by omega) (by omega) (by rw [hz2]; omega) (by rw [hz2]; exact growslice_fits_wide (by omega) (by omega))
    rw [Nat.zero_add] at h
    exact h

set_option maxRecDepth 100000 in
theorem grow_nil (n : Nat) (hn : n ≤ 1000) (B : Nat) (w : World) :
    Calls Try.prog 65 #[.slice none 0 0, .int .i64 (n : Int)] w fun e w' => ∃ v, e = .returned v ∧ RqsTwo w' w.heap.size B v [] ∧ Below w.heap.size w w' := by
  by_cases h0 : n = 0
  · subst h0
    go_enter Try.func65, Try.ntmps65
    go_wp2
    go_ret
    exact ⟨_, rfl, ⟨[], rfl, World.ownsRow_nil _ _ _ _, fun x hx => by simp at hx⟩, Below.refl _ _⟩
  · have hn1 : 0 < n := by omega
    obtain ⟨G, cs, hG1, hG2, hcs, hrun⟩ := run_grow_nil n hn1 hn w
    have HRUN := Lib.hid hrun
    have b1 : decide ((n : Int) < 0) = false := by rw [decide_eq_false_iff_not]; omega
    have b2 : ¬ (n : Int) < 0 := by omega
    have b3 : (0 : Int) < (n : Int) := by omega
    clear hrun
    have HCS := Lib.hid hcs
    clear hcs
    go_enter Try.func65, Try.ntmps65
    go_wp2_with (at_builtin; refine Lib.wpList_append_run _ rfl _ _ _ _ rfl _ _ rfl rfl _ _ (HRUN.out _) ?_)
    go_wp2
    go_ret
    exact ⟨_, rfl, ⟨[], rfl, ⟨rfl, Or.inr ⟨w.heap.size, G, cs, rfl, Nat.le_refl _, heap_alloc_new w.drew _, Nat.zero_le _, hG2, HCS.out, by simp [rcells]⟩⟩, fun x hx => by simp at hx⟩, ((Below.refl _ _).drew).alloc (Nat.le_refl _) _⟩

set_option maxRecDepth 100000 in
set_option maxHeartbeats 2000000 in
theorem concat3_any (B gs c b1 b2 b3 : Nat) (v1 v2 v3 : Value) (L1 L2 L3 : List Rb) (w : World) (hg : w.heap[gs]? = some (.cells #[v1, v2, v3] 44 (0, 0)))
    (h1 : RqsTwo w b1 B v1 L1) (h2 : RqsTwo w b2 B v2 L2) (h3 : RqsTwo w b3 B v3 L3) (hlen : L1.length + L2.length + L3.length ≤ 1000) :
    Calls Try.prog 37 #[.slice (some ⟨gs, 0, none⟩) 3 c] w fun e w' => ∃ v, e = .returned v ∧ RqsTwo w' w.heap.size B v (L1 ++ L2 ++ L3) ∧ Below w.heap.size w w' := by
  have H1 := Lib.hid h1
  have H2 := Lib.hid h2
  have H3 := Lib.hid h3
  have hgs := heap_lt hg
  obtain ⟨E1, hE1, ho1, _⟩ := h1
  obtain ⟨E2, hE2, ho2, _⟩ := h2
  obtain ⟨E3, hE3, ho3, _⟩ := h3
  have e1 := rqs_len hE1
  have e2 := rqs_len hE2
  have e3 := rqs_len hE3
  obtain ⟨q1, c1, rfl, _⟩ := owns_slice ho1
  obtain ⟨q2, c2, rfl, _⟩ := owns_slice ho2
  obtain ⟨q3, c3, rfl, _⟩ := owns_slice ho3
  rw [e1] at H1
  rw [e2] at H2
  rw [e3] at H3
  rw [e1, e2, e3] at hg
  obtain ⟨n1, hn1⟩ : ∃ n, L1.length = n := ⟨_, rfl⟩
  obtain ⟨n2, hn2⟩ : ∃ n, L2.length = n := ⟨_, rfl⟩
  obtain ⟨n3, hn3⟩ : ∃ n, L3.length = n := ⟨_, rfl⟩
  rw [hn1] at H1
  rw [hn2] at H2
  rw [hn3] at H3
  rw [hn1, hn2, hn3] at hg hlen
  obtain ⟨T2, HT2⟩ : ∃ T, Hid (T = n1 + n2) := ⟨_, rfl⟩
  obtain ⟨T3, HT3⟩ : ∃ T, Hid (T = n1 + n2 + n3) := ⟨_, rfl⟩
  have k0 : w.cell? ⟨gs, 0, none⟩ = some (.slice q1 n1 c1) := cell_of_row _ _ _ _ _ _ hg
  have k1 : w.cell? ⟨gs, 1, none⟩ = some (.slice q2 n2 c2) := cell_of_row _ _ _ _ _ _ hg
  have k2 : w.cell? ⟨gs, 2, none⟩ = some (.slice q3 n3 c3) := cell_of_row _ _ _ _ _ _ hg
  have HN1 := Lib.hid hn1
  have HN2 := Lib.hid hn2
  have HN3 := Lib.hid hn3
  clear hn1 hn2 hn3 ho1 ho2 ho3 hE1 hE2 hE3 e1 e2 e3 hg
  have b2 : (n1 : Int) + (n2 : Int) = (T2 : Int) := by have := HT2.out; omega
  have b3 : (T2 : Int) + (n3 : Int) = (T3 : Int) := by have := HT2.out; have := HT3.out; omega
  have HB2 := Lib.hid b2
  have HB3 := Lib.hid b3
  have t3 : T3 ≤ 1000 := by have := HT3.out; omega
  have t2 : T2 ≤ 1000 := by have := HT2.out; omega
  clear b2 b3
  have d2 : decide ((T2 : Int) < 0) = false := by rw [decide_eq_false_iff_not]; omega
  have d3 : decide ((T3 : Int) < 0) = false := by rw [decide_eq_false_iff_not]; omega
  have d1 : decide ((n1 : Int) < 0) = false := by rw [decide_eq_false_iff_not]; omega
  go_enter Try.func37, Try.ntmps37
  go_wp2
  go_loop [3, 11] (fun s i => (i = .int .i64 0 ∧ s = .int .i64 0) ∨ (i = .int .i64 1 ∧ s = .int .i64 (n1 : Int)) ∨ (i = .int .i64 2 ∧ s = .int .i64 (T2 : Int)) ∨ (i = .int .i64 3 ∧ s = .int .i64 (T3 : Int))) (fun _ i => 3 - (intOf i).toNat)
  case atStart => exact Or.inl ⟨rfl, rfl⟩
  case round =>
    rcases hrel with ⟨rfl, rfl⟩ | ⟨rfl, rfl⟩ | ⟨rfl, rfl⟩ | ⟨rfl, rfl⟩
    · go_wp2
      go_round
      case rel => exact Or.inr (Or.inl ⟨rfl, rfl⟩)
      case measure => simp [intOf]
    · have b2 := HB2.out
      go_wp2
      go_round
      case rel => exact Or.inr (Or.inr (Or.inl ⟨rfl, rfl⟩))
      case measure => simp [intOf]
    · have b3 := HB3.out
      go_wp2
      go_round
      case rel => exact Or.inr (Or.inr (Or.inr ⟨rfl, rfl⟩))
      case measure => simp [intOf]
    · have HGR := Lib.hid (grow_nil T3 (by omega) B w)
      go_wp2_with fail
      refine HGR.out.mono ?_
      rintro e w1 ⟨v, rfl, ho, hb⟩
      have HO := Lib.hid ho
      have HB := Lib.hid hb
      clear ho hb
      go_wp2
      go_loopw [6, 27] (fun o i wr => ((i = .int .i64 0 ∧ Hid (RqsTwo wr w.heap.size B o [])) ∨ (i = .int .i64 1 ∧ Hid (RqsTwo wr w.heap.size B o L1)) ∨ (i = .int .i64 2 ∧ Hid (RqsTwo wr w.heap.size B o (L1 ++ L2))) ∨ (i = .int .i64 3 ∧ Hid (RqsTwo wr w.heap.size B o (L1 ++ L2 ++ L3)))) ∧ Below w.heap.size w wr) (fun _ i _ => 3 - (intOf i).toNat)
      case atStart => exact ⟨Or.inl ⟨rfl, HO⟩, HB.out⟩
      case round =>
        obtain ⟨hr, hb⟩ := hrel
        have k0' := (hb.cell (p := ⟨gs, 0, none⟩) hgs).trans k0
        have k1' := (hb.cell (p := ⟨gs, 1, none⟩) hgs).trans k1
        have k2' := (hb.cell (p := ⟨gs, 2, none⟩) hgs).trans k2
        have hz := hb.size
        rcases hr with ⟨rfl, HO⟩ | ⟨rfl, HO⟩ | ⟨rfl, HO⟩ | ⟨rfl, HO⟩
        · have HX := Lib.hid (H1.out.below hb)
          go_wp2_with (at_builtin; refine wpList_append_two rfl _ _ rfl _ _ w.heap.size b1 B _ _ rfl rfl HO.out HX.out hz (by rw [HN1.out]; simp; omega) ?_; intro v' w' hown hgrow)
          have HO2 : Hid (RqsTwo w' w.heap.size B v' L1) := hown
          have HB2 : Below w.heap.size w w' := hb.grown hgrow hz (fun q hq => by
            obtain ⟨_, _, h, _⟩ := HO.out
            exact (h.lt q hq).1)
          clear hown hgrow
          go_wp2
          go_roundw
          case rel => exact ⟨Or.inr (Or.inl ⟨rfl, HO2⟩), HB2⟩
          case measure => simp [intOf]
        · have HX := Lib.hid (H2.out.below hb)
          go_wp2_with (at_builtin; refine wpList_append_two rfl _ _ rfl _ _ w.heap.size b2 B _ _ rfl rfl HO.out HX.out hz (by rw [HN1.out, HN2.out]; omega) ?_; intro v' w' hown hgrow)
          have HO2 : Hid (RqsTwo w' w.heap.size B v' (L1 ++ L2)) := hown
          have HB2 : Below w.heap.size w w' := hb.grown hgrow hz (fun q hq => by
            obtain ⟨_, _, h, _⟩ := HO.out
            exact (h.lt q hq).1)
          clear hown hgrow
          go_wp2
          go_roundw
          case rel => exact ⟨Or.inr (Or.inr (Or.inl ⟨rfl, HO2⟩)), HB2⟩
          case measure => simp [intOf]
        · have HX := Lib.hid (H3.out.below hb)
          go_wp2_with (at_builtin; refine wpList_append_two rfl _ _ rfl _ _ w.heap.size b3 B _ _ rfl rfl HO.out HX.out hz (by rw [List.length_append, HN1.out, HN2.out, HN3.out]; omega) ?_; intro v' w' hown hgrow)
          have HO2 : Hid (RqsTwo w' w.heap.size B v' (L1 ++ L2 ++ L3)) := hown
          have HB2 : Below w.heap.size w w' := hb.grown hgrow hz (fun q hq => by
            obtain ⟨_, _, h, _⟩ := HO.out
            exact (h.lt q hq).1)
          clear hown hgrow
          go_wp2
          go_roundw
          case rel => exact ⟨Or.inr (Or.inr (Or.inr ⟨rfl, HO2⟩)), HB2⟩
          case measure => simp [intOf]
        · go_wp2
          go_ret
          exact ⟨_, rfl, HO.out, hb⟩

end Go.Proofs.Ythkcnihmfeilgaa
