/- What a sector may be behind a crash, plainly. -/
import Derived.Test.YtappfgjomndlmaaDiskFuseP
namespace Go.Proofs.Ytappfgjomndlmaa
open Go.RowKit

/-- What a sector lasted as, and what writes let it be. -/
def mayL (S : List Int) (n : Nat) (W : List (Nat × List Int)) : List (List Int) := sec S n :: (W.filter fun x => x.1 = n).map (·.2)

theorem each_in (n : Nat) (hn : n < 16) : ∀ (W : List (Nat × List Int)) (S : List Int) (K : List Bool), S.length = 64 * 16 → (∀ x, x ∈ W → x.1 < 16 ∧ x.2.length = 64) → sec (crashS S W K) n ∈ mayL S n W
  | [], S, K, _, _ => by simp [crashS, mayL]
  | (m, D) :: W, S, [], _, _ => by simp [crashS, mayL]
  | (m, D) :: W, S, b :: K, hS, hW => by
    have hm := hW (m, D) (by simp)
    simp only at hm
    have ih := each_in n hn W (if b then putS S m D else S) K (by split; exact putS_len hS hm.1 hm.2; exact hS) (fun x hx => hW x (by simp [hx]))
    unfold crashS
    unfold mayL at ih ⊢
    rcases List.mem_cons.1 ih with h | h
    · rw [h]
      by_cases hb : b = true
      · rw [if_pos hb]
        by_cases e : m = n
        · subst e
          rw [sec_put_same hS hm.1 hm.2]
          simp
        · rw [sec_put_other hS hm.1 hn hm.2 (Ne.symm e)]
          simp
      · rw [if_neg hb]; simp
    · refine List.mem_cons_of_mem _ ?_
      rw [List.filter_cons]
      split
      · rw [List.map_cons]; exact List.mem_cons_of_mem _ h
      · exact h

theorem each_last (n : Nat) (hn : n < 16) : ∀ (W : List (Nat × List Int)) (S : List Int) (c : Nat), S.length = 64 * 16 → (∀ x, x ∈ W → x.1 < 16 ∧ x.2.length = 64) → W.length ≤ c → (mayL S n W).getLast? = some (sec (crashS S W (List.replicate c true)) n)
  | [], S, c, _, _, _ => by simp [crashS, mayL]
  | (m, D) :: W, S, 0, _, _, h => by simp at h
  | (m, D) :: W, S, c + 1, hS, hW, h => by
    have hm := hW (m, D) (by simp)
    simp only at hm
    have ih := each_last n hn W (putS S m D) c (putS_len hS hm.1 hm.2) (fun x hx => hW x (by simp [hx])) (by simpa using h)
    rw [List.replicate_succ]
    unfold crashS
    rw [if_pos rfl, ← ih]
    unfold mayL
    by_cases e : m = n
    · subst e
      rw [sec_put_same hS hm.1 hm.2, List.filter_cons, if_pos (by simp), List.map_cons]
      rfl
    · rw [sec_put_other hS hm.1 hn hm.2 (Ne.symm e), List.filter_cons, if_neg (by simpa using e)]

theorem flushE_yes {st : Dk} (h : st.fu = -1) : (flushE st).W = [] ∧ (flushE st).fu = -1 := by
  unfold flushE
  rw [if_neg (by omega), h]
  exact ⟨rfl, rfl⟩
theorem spunF (l : List (Int × ByteArray)) (f : Nat) : ∀ k, k ≤ l.length → (spunK l (f : Int) k).fu = -1 ∧ (spunK l (f : Int) k).W = ((l.take k).drop (if k ≤ f then 0 else f)).map wOne
  | 0, _ => ⟨rfl, by rw [if_pos (Nat.zero_le _)]; rfl⟩
  | k + 1, hk => by
    obtain ⟨h1, h2⟩ := spunF l f k (by omega)
    unfold spunK
    rw [List.getElem?_eq_getElem (by omega)]
    simp only
    by_cases e : k = f
    · rw [if_pos (by omega)]
      obtain ⟨h3, h4⟩ := flushE_yes h1
      unfold putOne
      rw [writeE_yes h4]
      refine ⟨rfl, ?_⟩
      simp only
      rw [h3, if_neg (by omega), ← List.take_append_getElem (by omega : k < l.length), List.drop_append, List.drop_of_length_le (by rw [List.length_take]; omega), List.length_take, show f - min k l.length = 0 by omega]
      rfl
    · rw [if_neg (by omega)]
      unfold putOne
      rw [writeE_yes h1]
      refine ⟨rfl, ?_⟩
      simp only
      rw [h2, ← List.take_append_getElem (by omega : k < l.length)]
      by_cases hlt : k ≤ f
      · rw [if_pos hlt, if_pos (by omega), List.drop_zero, List.drop_zero, List.map_append]
        rfl
      · rw [if_neg hlt, if_neg (by omega), List.drop_append, List.length_take, show f - min k l.length = 0 by omega, List.map_append]
        rfl
theorem spunF_end (l : List (Int × ByteArray)) (f : Nat) (hf : f ≤ l.length) : (spunE l (f : Int)).W = (l.drop f).map wOne := by
  have h := spunF l f l.length (Nat.le_refl _)
  unfold spunE
  by_cases e : l.length ≤ f
  · rw [if_pos (by omega), (flushE_yes h.1).1, List.drop_of_length_le (by omega)]
    rfl
  · rw [if_neg (by omega), h.2, if_neg e, List.take_length]
theorem wOne_in (x : Int × ByteArray) : (wOne x).1 < 16 ∧ (wOne x).2.length = 64 := ⟨pkN_lt x.1 16 (by omega) (by omega), secS_len _⟩
theorem mayL_snoc (S : List Int) (n : Nat) (W : List (Nat × List Int)) (x : Nat × List Int) : mayL S n (W ++ [x]) = mayL S n W ++ (if x.1 = n then [x.2] else []) := by
  unfold mayL
  rw [List.filter_append, List.map_append]
  by_cases h : x.1 = n
  · rw [if_pos h]; simp [h]
  · rw [if_neg h]; simp [h]
/-- What a sector may be, as texts, behind k of the writes. -/
def mayB (S : List Int) (n : Nat) (l : List (Int × ByteArray)) : List ByteArray := (mayL S n (l.map wOne)).map bytesS
theorem mayB_len (S : List Int) (n : Nat) (l : List (Int × ByteArray)) : 1 ≤ (mayB S n l).length ∧ (mayB S n l).length ≤ l.length + 1 := by
  unfold mayB mayL
  have := List.length_filter_le (fun x : Nat × List Int => decide (x.1 = n)) (l.map wOne)
  rw [List.length_map] at this
  simp only [List.length_map, List.length_cons]
  omega
theorem mayB_in (S : List Int) (n : Nat) (hn : n < 16) (l : List (Int × ByteArray)) (K : List Bool) (hS : S.length = 64 * 16) : bytesS (sec (crashS S (l.map wOne) K) n) ∈ mayB S n l :=
  List.mem_map_of_mem (each_in n hn _ S K hS (fun x hx => by obtain ⟨y, _, rfl⟩ := List.mem_map.1 hx; exact wOne_in y))
theorem mayB_last (S : List Int) (n : Nat) (hn : n < 16) (l : List (Int × ByteArray)) (c : Nat) (hS : S.length = 64 * 16) (hc : l.length ≤ c) : (mayB S n l)[(mayB S n l).length - 1]? = some (bytesS (sec (crashS S (l.map wOne) (List.replicate c true)) n)) := by
  have h := each_last n hn (l.map wOne) S c hS (fun x hx => by obtain ⟨y, _, rfl⟩ := List.mem_map.1 hx; exact wOne_in y) (by rw [List.length_map]; exact hc)
  unfold mayB
  rw [← List.getLast?_eq_getElem?, List.getLast?_map, h]
  rfl

end Go.Proofs.Ytappfgjomndlmaa
