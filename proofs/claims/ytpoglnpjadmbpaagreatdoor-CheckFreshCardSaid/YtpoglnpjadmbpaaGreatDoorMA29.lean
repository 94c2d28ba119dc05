/- Part of the proofs of CheckFresh, FsCut, FsHoles: the texts SortI. -/
import Derived.Test.YtpoglnpjadmbpaaGreatDoorMA2
import Derived.Test.YtpoglnpjadmbpaaGreatDoorMA27
import Derived.Shelf.Slices.In.SortNone
import Derived.Sort.OwnSortedInts
set_option maxHeartbeats 16000000
namespace Go.Proofs.YtpoglnpjadmbpaaGreatDoor
open Go.RowKit Go.Sort
def srtI (l : List Int) : List Int := l.mergeSort fun x y => decide (x ≤ y)
theorem qny (l : List Int) : (srtI l).Perm l := List.mergeSort_perm _ _
theorem ybgx (v : Value) (l : List Int) (base : Nat) (w : World) (h : w.ownsRow base 3 1 v l.length (ints l)) (hl : l.length ≤ 1000000) :
  Calls Tryz.prog 40 #[v] w fun e w' => e = .returned (.tuple #[]) ∧ w'.ownsRow base 3 1 v l.length (ints (srtI l)) ∧ w.grownBy w' v.ownBlock := by
 have hlen : (srtI l).length = l.length := (qny l).length_eq
 obtain ⟨h0, ⟨rfl, hn⟩ | ⟨g, cap, cur, rfl, hg, hh, hc, hm, hs, ht⟩⟩ := h
 ·have hnil : l = [] := List.length_eq_zero_iff.1 hn
  subst hnil
  refine (Any.slices_Sort_int_none Tryz.lays189 none 0 w).mono fun e w' ⟨he, hw⟩ => ⟨he, ?_, ?_⟩
  ·rw [hw]
   have e : srtI [] = [] := List.length_eq_zero_iff.1 hlen
   rw [e]
   exact World.ownsRow_nil _ _ _ _
  ·rw [hw]; exact ⟨rfl, rfl, rfl, Nat.le_refl _, fun _ _ _ => rfl⟩
 ·rw [Nat.mul_one] at ht
  have hH := holds_of_blockI hh ht
  refine (Any.slices_Sort_int Tryz.lays189 g 0 cap l w hH (qab hh) (by omega)).mono fun e w' ⟨he, n, os, hw⟩ => ⟨he, ?_, ?_⟩
  ·rw [hw]
   exact ownsRow_sortedI (by simp) hg hh hc hm hs
  ·rw [hw]
   exact grownBy_sortedI _
end Go.Proofs.YtpoglnpjadmbpaaGreatDoor
