/- Plain facts about the list of a set; '==' of two sets. -/
import Derived.Test.YtnmfbhiooccgfaaBitsListF
namespace Go.Proofs.Ytnmfbhiooccgfaa
open Go.RowKit

theorem mem_lst (s : Nat → Bool) (m : Nat) : ∀ k, m ∈ lst s k ↔ m < k ∧ s m = true
  | 0 => by simp [lst]
  | k + 1 => by
    simp only [lst, List.mem_append, mem_lst s m k]
    cases hs : s k
    · simp only [Bool.false_eq_true, if_false, List.not_mem_nil, or_false]
      constructor
      · rintro ⟨h1, h2⟩; exact ⟨by omega, h2⟩
      · rintro ⟨h1, h2⟩
        refine ⟨?_, h2⟩
        by_cases e : m = k
        · rw [e, hs] at h2; cases h2
        · omega
    · simp only [if_true, List.mem_singleton]
      constructor
      · rintro (⟨h1, h2⟩ | rfl)
        · exact ⟨by omega, h2⟩
        · exact ⟨by omega, hs⟩
      · rintro ⟨h1, h2⟩
        by_cases e : m = k
        · exact Or.inr e
        · exact Or.inl ⟨by omega, h2⟩
theorem lst_pairwise (s : Nat → Bool) : ∀ k, (lst s k).Pairwise (· < ·)
  | 0 => List.Pairwise.nil
  | k + 1 => by
    rw [lst, List.pairwise_append]
    refine ⟨lst_pairwise s k, ?_, ?_⟩
    · split <;> simp
    · intro a ha b hb
      have h1 := ((mem_lst s a k).1 ha).1
      split at hb
      · simp at hb; omega
      · cases hb
theorem lst_rise (s : Nat → Bool) (k i : Nat) (h : i + 1 < (lst s k).length) : (lst s k)[i] < (lst s k)[i + 1] :=
  (List.pairwise_iff_getElem.1 (lst_pairwise s k)) i (i + 1) (by omega) h (by omega)
/-- The set that a list makes. -/
def memOf (l : List Nat) : Nat → Bool := fun m => decide (m ∈ l)
theorem memOf_snoc (l : List Nat) (n : Nat) : ins (memOf l) n = memOf (l ++ [n]) := by
  funext m
  simp only [ins, memOf, List.mem_append, List.mem_singleton]
  by_cases h1 : m ∈ l <;> by_cases h2 : m = n <;> simp [h1, h2]
theorem memOf_lst (s : Nat → Bool) (m : Nat) (hm : m < 256) : memOf (lst s 256) m = s m := by
  unfold memOf
  cases hs : s m
  · simp [mem_lst, hs]
  · simp [mem_lst, hs, hm]

theorem cntTo_congr {s t : Nat → Bool} : ∀ {k : Nat}, (∀ m, m < k → s m = t m) → cntTo s k = cntTo t k
  | 0, _ => rfl
  | k + 1, h => by simp only [cntTo]; rw [cntTo_congr (k := k) fun m hm => h m (by omega), h k (by omega)]
theorem cnt_ins (s : Nat → Bool) (n : Nat) (hn : n < 256) : cntTo (ins s n) 256 = cntTo (del s n) 256 + 1 := by
  have key : ∀ k, n < k → cntTo (ins s n) k = cntTo (del s n) k + 1 := by
    intro k
    induction k with
    | zero => intro h; omega
    | succ k ih =>
      intro h
      simp only [cntTo]
      by_cases e : n = k
      · subst e
        rw [cntTo_congr (s := ins s n) (t := del s n) fun m hm => by simp [ins, del, show m ≠ n by omega]]
        simp [ins, del, b2]
      · rw [ih (by omega)]
        simp [ins, del, show ¬ k = n by omega]
        omega
  exact key 256 hn

theorem enc_del_ins (s : Nat → Bool) (n : Nat) : enc (del (ins s n) n) = enc (del s n) := enc_congr fun m _ => by simp only [del, ins]; cases s m <;> cases decide (m = n) <;> rfl
theorem enc_ins_del (s : Nat → Bool) (n : Nat) : enc (ins (del s n) n) = enc (ins s n) := enc_congr fun m _ => by simp only [del, ins]; cases s m <;> cases decide (m = n) <;> rfl

theorem intCells_enc (s t : Nat → Bool) : IntCells (enc s) (enc t) 0 32 := fun j hj => ⟨.u8, _, _, by rw [Nat.zero_add]; exact enc_get s j hj, by rw [Nat.zero_add]; exact enc_get t j hj⟩
theorem setG : Try.prog.eqGuardType Try.prog.depth 23 = false := by kernel_rfl
theorem run_eql_sets (s t : Nat → Bool) (w : World) : (Op.equalIn 10000 23 (.agg (enc s)) (.agg (enc t))).run Try.prog w = .ok (sameCells (enc s) (enc t) 0 32) w :=
  run_equalIn_arr (len := 32) (n := 1) setT byteI (eqParts_int byteT) _ _ w (intCells_enc s t)
theorem run_eql_sets_true {s t : Nat → Bool} (h : ∀ m, m < 256 → s m = t m) (w : World) : (Op.equalIn 10000 23 (.agg (enc s)) (.agg (enc t))).run Try.prog w = .ok true w := by
  rw [run_eql_sets, (sameCells_eq (enc_size s) (enc_size t) (intCells_enc s t)).2 (enc_congr h)]

end Go.Proofs.Ytnmfbhiooccgfaa
