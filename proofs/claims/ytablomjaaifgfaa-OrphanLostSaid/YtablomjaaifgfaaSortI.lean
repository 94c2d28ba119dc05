/- The library's Sort at a slice of ints. -/
import Derived.Test.YtablomjaaifgfaaShSort
import Derived.Shelf.Slices.In.SortNone
import Derived.Sort.OwnSortedInts
import Derived.Test.YtablomjaaifgfaaExtPlain
namespace Go.Proofs.Ytablomjaaifgfaa
open Go.RowKit Go.Sort

/-- The ints of a list, rising. -/
def srtI (l : List Int) : List Int := l.mergeSort fun x y => decide (x ≤ y)
theorem srtI_perm (l : List Int) : (srtI l).Perm l := List.mergeSort_perm _ _
theorem srtI_sorted (l : List Int) : (srtI l).Pairwise fun x y => x ≤ y := by
  have := List.pairwise_mergeSort (le := fun x y : Int => decide (x ≤ y)) (fun a b c h1 h2 => by simp at *; omega) (fun a b => by simp; omega) l
  exact this.imp fun h => by simpa using h

theorem sort_own (v : Value) (l : List Int) (base : Nat) (w : World) (h : w.ownsRow base 3 1 v l.length (ints l)) (hl : l.length ≤ 1000000) :
    Calls Try.prog 11 #[v] w fun e w' => e = .returned (.tuple #[]) ∧ w'.ownsRow base 3 1 v l.length (ints (srtI l)) ∧ w.grownBy w' v.ownBlock := by
  have hlen : (srtI l).length = l.length := (srtI_perm l).length_eq
  obtain ⟨h0, ⟨rfl, hn⟩ | ⟨g, cap, cur, rfl, hg, hh, hc, hm, hs, ht⟩⟩ := h
  · have hnil : l = [] := List.length_eq_zero_iff.1 hn
    subst hnil
    refine (Any.slices_Sort_int_none Try.lays189 none 0 w).mono fun e w' ⟨he, hw⟩ => ⟨he, ?_, ?_⟩
    · rw [hw]
      have e : srtI [] = [] := List.length_eq_zero_iff.1 hlen
      rw [e]
      exact World.ownsRow_nil _ _ _ _
    · rw [hw]; exact ⟨rfl, rfl, rfl, Nat.le_refl _, fun _ _ _ => rfl⟩
  · rw [Nat.mul_one] at ht
    have hH := holds_of_blockI hh ht
    refine (Any.slices_Sort_int Try.lays189 g 0 cap l w hH (heap_lt hh) (by omega)).mono fun e w' ⟨he, n, os, hw⟩ => ⟨he, ?_, ?_⟩
    · rw [hw]
      exact ownsRow_sortedI (by simp) hg hh hc hm hs
    · rw [hw]
      exact grownBy_sortedI _

end Go.Proofs.Ytablomjaaifgfaa
