/- The sectors that a cache holds: the ones that were asked for last. -/
import Derived.Test.YthkcnihmfeilgaaBufPl
namespace Go.Proofs.Ythkcnihmfeilgaa

def keysA (M : List Ab) : List Nat := M.map fun x => x.1
/-- All sectors that were asked for, the last one ahead. -/
def lruU (l : List (Int × ByteArray × Bool)) : List Nat := l.foldl (fun r x => pkN x.1 16 :: r.erase (pkN x.1 16)) []
theorem keys_out (M : List Ab) (n : Nat) : keysA (outA M n) = (keysA M).erase n := by
  unfold keysA outA
  induction M with
  | nil => rfl
  | cons x M ih =>
    rw [List.eraseP_cons, List.map_cons, List.erase_cons]
    cases hx : (x.1 == n) with
    | true => rfl
    | false =>
      show ((x :: List.eraseP (fun x => x.1 == n) M).map fun x => x.1) = x.1 :: (M.map fun x => x.1).erase n
      rw [List.map_cons, ih]
theorem keys_room (slots : Nat) (M : List Ab) (st : Dk) : keysA (roomA slots M st).1 = if M.length = slots then (keysA M).dropLast else keysA M := by
  unfold roomA keysA
  split
  · cases hl : M.getLast? with
    | none =>
      rw [List.getLast?_eq_none_iff] at hl
      subst hl; rfl
    | some x => simp
  · rfl
theorem keys_use (slots : Nat) (M : List Ab) (st : Dk) (s : Ab) : keysA (useA slots M st s).1 = s.1 :: (if ((keysA M).erase s.1).length = slots then ((keysA M).erase s.1).dropLast else (keysA M).erase s.1) := by
  show s.1 :: keysA (roomA slots (outA M s.1) st).1 = _
  rw [keys_room, keys_out]
  have : (outA M s.1).length = ((keysA M).erase s.1).length := by rw [← keys_out]; simp [keysA]
  rw [this]
theorem take_room (r : List Nat) (s n : Nat) (h1 : 1 ≤ s) : n :: (if ((r.take s).erase n).length = s then ((r.take s).erase n).dropLast else (r.take s).erase n) = (n :: r.erase n).take s := by
  obtain ⟨t, rfl⟩ : ∃ t, s = t + 1 := ⟨s - 1, by omega⟩
  rw [List.take_succ_cons]
  congr 1
  have hlen : (r.take (t + 1)).length = min (t + 1) r.length := List.length_take
  by_cases hn : n ∈ r.take (t + 1)
  · have h2 : ((r.take (t + 1)).erase n).length = (r.take (t + 1)).length - 1 := List.length_erase_of_mem hn
    have h3 : 0 < (r.take (t + 1)).length := List.length_pos_of_mem hn
    rw [if_neg (by omega)]
    have h4 : r.erase n = (r.take (t + 1)).erase n ++ r.drop (t + 1) := by
      conv => lhs; rw [← List.take_append_drop (t + 1) r]
      exact List.erase_append_left _ hn
    rw [h4]
    by_cases hr : t + 1 ≤ r.length
    · rw [List.take_append_of_le_length (by omega), List.take_of_length_le (i := t) (l := (r.take (t + 1)).erase n) (by omega)]
    · rw [List.drop_of_length_le (by omega), List.append_nil, List.take_of_length_le (i := t) (l := (r.take (t + 1)).erase n) (by omega)]
  · rw [List.erase_of_not_mem hn]
    have h4 : r.erase n = r.take (t + 1) ++ (r.drop (t + 1)).erase n := by
      conv => lhs; rw [← List.take_append_drop (t + 1) r]
      exact List.erase_append_right _ hn
    rw [h4]
    by_cases hr : t + 1 ≤ r.length
    · rw [if_pos (by omega), List.take_append_of_le_length (by omega), List.dropLast_eq_take, hlen]
      congr 1
      omega
    · rw [if_neg (by omega), List.drop_of_length_le (by omega)]
      simp only [List.erase_nil, List.append_nil]
      rw [List.take_of_length_le (i := t) (l := r.take (t + 1)) (by omega)]
theorem keys_fold (slots : Nat) (h1 : 1 ≤ slots) (l : List (Int × ByteArray × Bool)) : ∀ k, keysA (foldU slots (l.take k)).1 = (lruU (l.take k)).take slots
  | 0 => by rw [List.take_zero]; simp [foldU, lruU, keysA]
  | k + 1 => by
    by_cases hk : k < l.length
    · rw [← List.take_append_getElem hk, foldU_snoc]
      have e : lruU (l.take k ++ [l[k]]) = pkN l[k].1 16 :: (lruU (l.take k)).erase (pkN l[k].1 16) := by unfold lruU; rw [List.foldl_append]; rfl
      rw [e]
      unfold stepU
      rw [keys_use, keys_fold slots h1 l k]
      exact take_room _ _ _ h1
    · have := keys_fold slots h1 l k
      rw [List.take_of_length_le (by omega)] at this ⊢
      exact this
theorem keys_all (slots : Nat) (h1 : 1 ≤ slots) (l : List (Int × ByteArray × Bool)) : keysA (foldU slots l).1 = (lruU l).take slots := by
  have := keys_fold slots h1 l l.length
  rw [List.take_length] at this
  exact this
theorem held_more (a b : Nat) (h1 : 1 ≤ a) (hab : a ≤ b) (l : List (Int × ByteArray × Bool)) : ((foldU a l).1.map fun x => (x.1 : Int)).length ≤ ((foldU b l).1.map fun x => (x.1 : Int)).length ∧
    (foldU a l).1.map (fun x => (x.1 : Int)) = ((foldU b l).1.map fun x => (x.1 : Int)).take ((foldU a l).1.map fun x => (x.1 : Int)).length := by
  have e : ∀ s, (foldU s l).1.map (fun x => (x.1 : Int)) = (keysA (foldU s l).1).map fun n : Nat => (n : Int) := fun s => by unfold keysA; rw [List.map_map]; rfl
  rw [e a, e b, keys_all a h1 l, keys_all b (by omega) l]
  constructor
  · simp only [List.length_map, List.length_take]; omega
  · rw [← List.map_take, List.length_map, List.take_take, List.length_take]
    congr 1
    by_cases h : a ≤ (lruU l).length
    · congr 1; omega
    · rw [List.take_of_length_le (by omega), List.take_of_length_le (by omega)]

end Go.Proofs.Ythkcnihmfeilgaa
