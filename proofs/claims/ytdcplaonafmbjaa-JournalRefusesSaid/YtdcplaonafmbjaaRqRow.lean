/- A slice of requests that can be cut; one appended to another. -/
import Derived.Test.YtdcplaonafmbjaaRqOps
import Derived.Test.YtdcplaonafmbjaaLiftPart
import Derived.Laws.AppendOwnNone
namespace Go.Proofs.Ytdcplaonafmbjaa
open Go.RowKit

def RqRow (w : World) (v : Value) (E : List Rq) : Prop := ∃ a cap, v = .slice a E.length cap ∧ E.length ≤ cap ∧ cap ≤ maxLen ∧ (0 < E.length → ∃ g o, a = some ⟨g, o, none⟩ ∧ ∀ (j : Nat) (x : Value), (rcells E)[j]? = some x → w.cell? ⟨g, o + j, none⟩ = some x)
theorem RqRow.row {w : World} {v : Value} {E : List Rq} (h : RqRow w v E) : RowAt w v 3 E.length (rcells E) := by
  obtain ⟨a, cap, rfl, h1, h2, h3⟩ := h
  refine ⟨rcells_len E, ?_⟩
  rcases Nat.eq_zero_or_pos E.length with e | e
  · exact Or.inl ⟨e, a, cap, by rw [e]⟩
  · obtain ⟨g, o, rfl, hc⟩ := h3 e
    exact Or.inr ⟨g, o, cap, rfl, hc⟩
theorem RqRow.below {w w' : World} {v : Value} {E : List Rq} (h : RqRow w v E) (hb : Below w.heap.size w w') : RqRow w' v E := by
  obtain ⟨a, cap, rfl, h1, h2, h3⟩ := h
  refine ⟨a, cap, rfl, h1, h2, fun h0 => ?_⟩
  obtain ⟨g, o, rfl, hc⟩ := h3 h0
  exact ⟨g, o, rfl, fun j x hx => (hb.cell (p := ⟨g, o + j, none⟩) (block_lt_of_cell (hc j x hx))).trans (hc j x hx)⟩
theorem RqRow.of_owns {w : World} {base : Nat} {v : Value} {E : List Rq} (h : w.ownsRow base 81 3 v E.length (rcells E)) : RqRow w v E := by
  obtain ⟨q, cap, hv, hq⟩ := owns_slice h
  obtain ⟨_, ⟨rfl, h0⟩ | ⟨g, cap', cur, rfl, hg, hh, hc, hm, _⟩⟩ := h
  · exact ⟨none, 0, by rw [h0], by omega, by unfold maxLen; omega, fun h => by omega⟩
  · refine ⟨_, cap', rfl, hc, hm, fun h0 => ?_⟩
    obtain ⟨g', e, _, hc2⟩ := hq h0
    injection hv with e1 _ _
    rw [e] at e1
    injection e1 with e1
    injection e1 with e1 _ _
    subst e1
    exact ⟨g, 0, rfl, fun j x hx => by rw [Nat.zero_add]; exact hc2 j x hx⟩
theorem RqRow.take {w : World} {a : Option Addr} {n cap : Nat} {E : List Rq} (h : RqRow w (.slice a n cap) E) {k : Nat} (hk : k ≤ n) : RqRow w (.slice a k cap) (E.take k) := by
  obtain ⟨a', cap', hv, h1, h2, h3⟩ := h
  cases hv
  have hl : (E.take k).length = k := by rw [List.length_take]; omega
  refine ⟨a, cap, by rw [hl], by rw [hl]; omega, h2, fun h0 => ?_⟩
  rw [hl] at h0
  obtain ⟨g, o, rfl, hc⟩ := h3 (by omega)
  refine ⟨g, o, rfl, fun j x hx => hc j x ?_⟩
  rw [← (rcells_split E k).1, List.getElem?_take] at hx
  split at hx
  · exact hx
  · cases hx
theorem RqRow.drop {w : World} {g o n cap : Nat} {E : List Rq} (h : RqRow w (.slice (some ⟨g, o, none⟩) n cap) E) {k : Nat} (hk : k ≤ n) : RqRow w (.slice (some ⟨g, o + k * 3, none⟩) (n - k) (cap - k)) (E.drop k) := by
  obtain ⟨a', cap', hv, h1, h2, h3⟩ := h
  cases hv
  have hl : (E.drop k).length = E.length - k := List.length_drop
  refine ⟨_, _, by rw [hl], by rw [hl]; omega, by omega, fun h0 => ?_⟩
  rw [hl] at h0
  obtain ⟨g', o', e, hc⟩ := h3 (by omega)
  cases e
  refine ⟨g, _, rfl, fun j x hx => ?_⟩
  rw [← (rcells_split E k).2, List.getElem?_drop] at hx
  rw [Nat.add_assoc]
  exact hc _ x hx
theorem RqRow.none {w : World} {a : Option Addr} {cap : Nat} (h : cap ≤ maxLen) : RqRow w (.slice a 0 cap) [] := ⟨a, cap, rfl, Nat.zero_le _, h, fun h => by simp at h⟩

/-- Requests of the call's own, appended to others of its own. -/
theorem wpList_append_rqs {w : World} {ops : Array Oper} {rest : List Oper} {o : Oper} {a : Act} {Q : Exit → Act → World → Prop} (hgd : o.guard = none) (s x : Operand)
    (ho : o.op = .call { callee := .builtin .append, args := #[s, x], argTypes := #[78, 78] }) (v pv : Value) (base base2 : Nat) (O L : List Rb) (hs : a.eval s = v) (hx : a.eval x = pv)
    (hO : RqsOwn w base v O) (hP : RqsOwn w base2 pv L) (hb : base ≤ base2) (hb2 : base ≤ w.heap.size) (hlen : O.length + L.length ≤ 1000000)
    (h : ∀ v' w', RqsOwn w' base v' (O ++ L) → w.grownBy w' v.ownBlock → wpList Try.prog ops Q rest (a.put o.dst v') w') : wpList Try.prog ops Q (o :: rest) a w := by
  obtain ⟨i0, hi0, hz0, hz1, hz2⟩ := info_parts reqInfo
  obtain ⟨E, hE, h1, h2⟩ := hO
  obtain ⟨E2, hE2, h3, h4⟩ := hP
  have hl1 := rqs_len hE
  have hl2 := rqs_len hE2
  have h3' := h3
  obtain ⟨_, ⟨rfl, h0⟩ | ⟨g, cap, cur, rfl, hg, hh, hc, hm, hsz, ht⟩⟩ := h3
  · have e2 : E2 = [] := List.length_eq_zero_iff.1 h0
    subst e2
    refine wpList_append_own_none hgd s x 78 ho base 81 i0 3 reqsT hi0 v E.length (rcells E) hs h1 hx (h v w ?_ ⟨rfl, rfl, rfl, Nat.le_refl _, fun _ _ _ => rfl⟩)
    refine ⟨E, ?_, h1, h2⟩
    rw [hE]
    have : L = [] := by rw [← hE2]; rfl
    rw [this, List.append_nil]
  · refine wpList_append_own w hgd s x 78 ho base 81 i0 (.agg #[.int .i64 0, .slice none 0 0, .bool false]) 3 40 reqsT hi0 hz0 hz1 hz2 rfl (by decide) v E.length (rcells E) hs h1 ⟨g, 0, none⟩ E2.length cap (rcells E2) hx (rcells_len E2) (fun j u hu => ?_) (rqs_ones h4) (by unfold maxLen; omega) (by omega) hb2 fun v' w' hown hgrow _ => h v' w' ?_ hgrow
    · have hadd : (⟨g, 0, none⟩ : Addr).add j = ⟨g, j, none⟩ := by unfold Addr.add; split <;> simp_all
      rw [hadd, cell_of_row _ _ _ _ _ _ hh]
      rw [← ht, List.getElem?_take] at hu
      split at hu
      · simpa using hu
      · cases hu
    · have hkeep : ∀ (i : Nat) (c : Array Value), w.heap[i]? = some (.cells c 5 (0, 0)) → w'.heap[i]? = w.heap[i]? := fun i c hi => hgrow.block i (heap_lt hi) (fun e => own_ne h1 hi (by decide) e.symm)
      refine ⟨E ++ E2, by rw [List.map_append, hE, hE2], by rw [List.length_append, rcells_append]; exact hown, fun y hy => ?_⟩
      rcases List.mem_append.1 hy with hy | hy
      · exact (h2 y hy).keep fun i c _ hi => hkeep i c hi
      · exact ((h4 y hy).mono hb).keep fun i c _ hi => hkeep i c hi

end Go.Proofs.Ytdcplaonafmbjaa
