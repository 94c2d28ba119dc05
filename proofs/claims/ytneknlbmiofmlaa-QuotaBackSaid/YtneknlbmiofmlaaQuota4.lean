/- slices.DeleteFunc of rows, by the closure of quota.Set. -/
import Derived.Test.YtneknlbmiofmlaaQuota3
namespace Go.Proofs.Ytneknlbmiofmlaa
open Go.RowKit

section
variable {P : Program}
/-- clear of a slice whose elements are pairs of integers. -/
theorem run_clear_pairs (w : World) (t e : TypeId) (ht : P.underlying t = some (.slice e)) (hv : ∀ w, (zeroValue e).run P w = .ok (.agg #[.int .i64 0, .int .i64 0]) w)
    (g o n c : Nat) (cur : Array Value) (ct : TypeId) (hn : 0 < n) (hg : w.heap[g]? = some (.cells cur ct (0, 0))) (hfit : o + n * 2 ≤ cur.size) :
    ∃ zs : List Value, zs.length = n * 2 ∧ ∀ ty, (Builtin.clear_ #[t] ty #[.slice (some ⟨g, o, none⟩) n c]).run P w = .ok (.tuple #[]) (w.setRow g (cur.toList.take o ++ zs ++ cur.toList.drop (o + zs.length)).toArray) := by
  have hlen : ((Builtin.zeroCells #[.int .i64 0, .int .i64 0] n).toList).length = n * 2 := by rw [Array.length_toList, size_zeroCells]; rfl
  have hone : ∀ v ∈ (Builtin.zeroCells #[.int .i64 0, .int .i64 0] n).toList, v.oneCell' = true := by
    intro v hv
    simp only [Builtin.zeroCells, Array.toList_map, List.mem_map] at hv
    obtain ⟨i, _, rfl⟩ := hv
    have h2 : i % 2 < 2 := Nat.mod_lt _ (by omega)
    show (#[Value.int .i64 0, Value.int .i64 0][i % 2]!).oneCell' = true
    rcases (by omega : i % 2 = 0 ∨ i % 2 = 1) with h | h <;> rw [h] <;> rfl
  refine ⟨_, hlen, fun ty => ?_⟩
  have hst := run_storeCells_at P g o ct (Builtin.zeroCells #[.int .i64 0, .int .i64 0] n).toList 0 cur w hg (by rw [hlen]; omega) hone
  simp only [Nat.add_zero] at hst
  obtain ⟨m, rfl⟩ : ∃ m, n = m + 1 := ⟨n - 1, by omega⟩
  simp [Builtin.clear_, run_underlying ht, hv, Value.cells, hst]
end

theorem two_set (L : List Value) (p : Nat) (x y : Value) (h : p + 1 < L.length) : ((L.set p x).set (p + 1) y).take (p + 2) = L.take p ++ [x, y] ∧ ∀ q, p + 2 ≤ q → ((L.set p x).set (p + 1) y)[q]? = L[q]? := by
  constructor
  · apply List.ext_getElem?
    intro q
    rw [List.getElem?_take]
    have hl : (L.take p).length = p := by rw [List.length_take]; omega
    by_cases h1 : q < p
    · rw [if_pos (by omega), List.getElem?_append_left (by omega), List.getElem?_take, if_pos h1, List.getElem?_set_ne (by omega), List.getElem?_set_ne (by omega)]
    · rw [List.getElem?_append_right (by omega), hl]
      by_cases h2 : q = p
      · subst h2
        rw [if_pos (by omega), List.getElem?_set_ne (by omega), List.getElem?_set_self (by omega), Nat.sub_self]; rfl
      · by_cases h3 : q = p + 1
        · subst h3
          rw [if_pos (by omega), List.getElem?_set_self (by rw [List.length_set]; omega), show p + 1 - p = 1 by omega]; rfl
        · rw [if_neg (by omega), List.getElem?_eq_none (by simp; omega)]
  · intro q hq
    rw [List.getElem?_set_ne (by omega), List.getElem?_set_ne (by omega)]

/-- The rows of all others. -/
def othQ (l : List (Int × Int)) (u : Int) : List (Int × Int) := l.filter fun x => !(x.1 == u)
theorem othQ_snoc (l : List (Int × Int)) (u : Int) (k : Nat) (hk : k < l.length) : othQ (l.take (k + 1)) u = othQ (l.take k) u ++ (if (l[k].1 == u) = true then [] else [l[k]]) := by
  unfold othQ
  rw [← List.take_append_getElem hk, List.filter_append]
  congr 1
  cases h : (l[k].1 == u) <;> simp [h]
theorem othQ_le (l : List (Int × Int)) (u : Int) (k : Nat) : (othQ (l.take k) u).length ≤ k := by
  unfold othQ
  have := List.length_filter_le (fun x : Int × Int => !(x.1 == u)) (l.take k)
  have h2 := List.length_take_le k l
  omega
theorem othQ_all {l : List (Int × Int)} {u : Int} : (∀ j (hj : j < l.length), l[j].1 ≠ u) → othQ l u = l := fun h => by
  unfold othQ
  rw [List.filter_eq_self]
  intro x hx
  obtain ⟨j, hj, rfl⟩ := List.mem_iff_getElem.1 hx
  have := h j hj
  simpa using this
theorem idxQ_spec (l : List (Int × Int)) (u : Int) : (idxQ l u = none ∧ ∀ j (hj : j < l.length), l[j].1 ≠ u) ∨ (∃ k, ∃ hk : k < l.length, idxQ l u = some k ∧ l[k].1 = u ∧ ∀ j (hj : j < l.length), j < k → l[j].1 ≠ u) := by
  induction l with
  | nil => exact Or.inl ⟨rfl, fun j hj => by simp at hj⟩
  | cons x l ih =>
    by_cases hx : x.1 = u
    · exact Or.inr ⟨0, by simp, by show (if x.1 = u then some 0 else _) = _; rw [if_pos hx], hx, fun j _ hj => by omega⟩
    · rcases ih with ⟨h1, h2⟩ | ⟨k, hk, h1, h2, h3⟩
      · refine Or.inl ⟨by show (if x.1 = u then some 0 else _) = _; rw [if_neg hx, h1]; rfl, fun j hj => ?_⟩
        cases j with
        | zero => exact hx
        | succ j => simpa using h2 j (by simpa using hj)
      · refine Or.inr ⟨k + 1, by simpa using hk, by show (if x.1 = u then some 0 else _) = _; rw [if_neg hx, h1]; rfl, by simpa using h2, fun j hj hjk => ?_⟩
        cases j with
        | zero => exact hx
        | succ j => simpa using h3 j (by simpa using hj) (by omega)
theorem rowZ : ∀ w, (zeroValue 63).run Try.prog w = .ok (.agg #[.int .i64 0, .int .i64 0]) w := fun _ => by kernel_rfl

theorem below_rowSet {B : Nat} {a w : World} (h : Below B a w) {g : Nat} (hp : B ≤ g) (cs : Array Value) : Below B a (w.setRow g cs) :=
  ⟨h.os, h.tape, h.output, by have := h.size; simp only [World.setRow, Array.size_modify]; exact this, fun k hk => by rw [setRow_other _ _ _ _ (by omega)]; exact h.block k hk⟩

end Go.Proofs.Ytneknlbmiofmlaa
