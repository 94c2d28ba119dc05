/- slices.SortFunc at structs of k cells: what becomes of a row that the call owns. -/
import Derived.Shelf.SlSortCmp.WholeK
import Derived.Shelf.SlSortCmp.NoneTotal
import Derived.Test.YtheiaebmemcbhaaDoorDkPlain
namespace Go.Proofs.YtheiaebmemcbhaaDoor
open Go.RowKit Go.Sort Go.Shelf

theorem flat_len {α : Type} {enc : α → List Value} {k : Nat} (hk : ∀ x, (enc x).length = k) (l : List α) : (l.flatMap enc).length = l.length * k := by
  induction l with
  | nil => simp
  | cons x l ih => rw [List.flatMap_cons, List.length_append, ih, hk, List.length_cons, Nat.add_mul]; omega
section
variable {α : Type} [Inhabited α]
theorem flat_get {enc : α → List Value} {k : Nat} (hk : ∀ x, (enc x).length = k) : ∀ (l : List α) (t : Nat), t < l.length * k → (l.flatMap enc)[t]? = some ((enc (l[t / k]?.getD default))[t % k]?.getD default)
  | [], t, h => by simp at h
  | x :: l, t, h => by
    have hk0 : 0 < k := by
      rcases Nat.eq_zero_or_pos k with e | e
      · subst e; simp at h
      · exact e
    rw [List.flatMap_cons]
    by_cases ht : t < k
    · rw [List.getElem?_append_left (by rw [hk]; exact ht), Nat.div_eq_of_lt ht, Nat.mod_eq_of_lt ht]
      have : t < (enc x).length := by rw [hk]; exact ht
      simp [List.getElem?_eq_getElem this]
    · rw [List.getElem?_append_right (by rw [hk]; omega), hk]
      have h2 : t - k < l.length * k := by rw [List.length_cons, Nat.add_mul] at h; omega
      rw [flat_get hk l (t - k) h2]
      have e1 : t / k = (t - k) / k + 1 := by
        conv => lhs; rw [show t = (t - k) + k by omega, Nat.add_div_right _ hk0]
      have e2 : t % k = (t - k) % k := by
        conv => lhs; rw [show t = (t - k) + k by omega, Nat.add_mod_right]
      rw [e1, e2, List.getElem?_cons_succ]
theorem flatK_list {enc : α → List Value} {k : Nat} (hk : ∀ x, (enc x).length = k) (d : Array α) : (flatK enc k d).toList = d.toList.flatMap enc := by
  refine List.ext_getElem? fun t => ?_
  by_cases h : t < d.size * k
  · have h1 := flat_get hk d.toList t (by simpa using h)
    rw [h1]
    have h2 := get_flatK enc k d t h
    have h3 : t < (flatK enc k d).size := by rw [size_flatK]; exact h
    rw [getElem!_pos _ t h3] at h2
    rw [Array.getElem?_toList, Array.getElem?_eq_getElem h3, h2]
    have h4 : t / k < d.size := by
      rcases Nat.eq_zero_or_pos k with e | e
      · subst e; simp at h
      · exact Nat.div_lt_of_lt_mul (by rw [Nat.mul_comm]; exact h)
    have e1 : d[t / k]! = d.toList[t / k]?.getD default := by
      rw [getElem!_pos d (t / k) h4, Array.getElem?_toList, Array.getElem?_eq_getElem h4]; rfl
    rw [e1]
    congr 1
    rw [List.getElem!_eq_getElem?_getD]
  · rw [List.getElem?_eq_none (by have := size_flatK enc k d; simp; omega), List.getElem?_eq_none (by rw [flat_len hk]; simpa using h)]
theorem putCells_take (F c : Array Value) (h : F.size ≤ c.size) : ((putCells id 0 F c).toList).take F.size = F.toList ∧ (putCells id 0 F c).size = c.size := by
  refine ⟨?_, by simp [putCells]⟩
  refine List.ext_getElem (by simp [putCells]; omega) fun t h1 h2 => ?_
  have h3 : t < F.size := by simpa using h2
  rw [List.getElem_take]
  simp [putCells, h3]
/-- A row that holds d: as SortFunc asks it. -/
theorem holdsK_of {enc : α → List Value} {k : Nat} (hk : ∀ x, (enc x).length = k) {w : World} {g : Nat} {cur : Array Value} {e : TypeId} {d : Array α} (hh : w.heap[g]? = some (.cells cur e (0, 0))) (ht : cur.toList.take (d.size * k) = d.toList.flatMap enc) : HoldsK enc k w g 0 d := by
  intro j hj
  rw [size_flatK] at hj
  refine ⟨?_, by simp [World.frozen?, hh]⟩
  rw [Nat.zero_add, cell_of_row _ _ _ _ _ _ hh]
  have h1 : (flatK enc k d).toList[j]? = some ((flatK enc k d)[j]!) := by
    have h3 : j < (flatK enc k d).size := by rw [size_flatK]; exact hj
    rw [Array.getElem?_toList, Array.getElem?_eq_getElem h3, getElem!_pos _ j h3]
  rw [flatK_list hk, ← ht, List.getElem?_take, if_pos hj] at h1
  simpa using h1
/-- Behind it. -/
theorem sortedK_block {enc : α → List Value} {k : Nat} (hk : ∀ x, (enc x).length = k) {w : World} {g m : Nat} {cur : Array Value} {e : TypeId} {d : Array α} {os : Array Obj} (hh : w.heap[g]? = some (.cells cur e (0, 0))) (hs : d.size * k ≤ cur.size) :
    ∃ cur', (sortWorldK enc k w g 0 m d os).heap[g]? = some (.cells cur' e (0, 0)) ∧ cur'.size = cur.size ∧ cur'.toList.take (d.size * k) = d.toList.flatMap enc := by
  have hg := heap_lt hh
  obtain ⟨h1, h2⟩ := putCells_take (flatK enc k d) cur (by rw [size_flatK]; exact hs)
  refine ⟨putCells id 0 (flatK enc k d) cur, ?_, h2, ?_⟩
  · unfold sortWorldK grow putRowK putRow mapBlock
    rw [Array.getElem?_append_left (by simpa using hg), Array.getElem?_modify]
    simp [hh, onCells]
  · rw [size_flatK] at h1
    rw [h1, flatK_list hk]
theorem sortedK_other {enc : α → List Value} {k : Nat} {w : World} {g m : Nat} {d : Array α} {os : Array Obj} {i : Nat} (hi : i < w.heap.size) (hne : i ≠ g) : (sortWorldK enc k w g 0 m d os).heap[i]? = w.heap[i]? := by
  unfold sortWorldK grow putRowK putRow mapBlock
  rw [Array.getElem?_append_left (by simpa using hi), Array.getElem?_modify, if_neg (Ne.symm hne)]
  simp
theorem sortedK_grown {enc : α → List Value} {k : Nat} {w : World} {g m : Nat} {d : Array α} {os : Array Obj} : w.grownBy (sortWorldK enc k w g 0 m d os) (some g) :=
  ⟨rfl, rfl, rfl, size_sortWorldK_c enc k w g 0 m d os, fun i hi hne => sortedK_other hi fun e => hne (by rw [e])⟩
end

end Go.Proofs.YtheiaebmemcbhaaDoor
