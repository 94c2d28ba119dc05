/- Plain facts: what runs stand for. -/
import Derived.Test.YtneknlbmiofmlaaExtRun
namespace Go.Proofs.Ytneknlbmiofmlaa
open Go.RowKit

/-- The sectors of a run; of runs. -/
def exp1 (x : Int × Int) : List Int := (List.range x.2.toNat).map fun i : Nat => if x.1 = 0 then (0 : Int) else x.1 + (i : Int)
def expE (l : List (Int × Int)) : List Int := l.flatMap exp1
theorem expE_append (a b : List (Int × Int)) : expE (a ++ b) = expE a ++ expE b := by simp [expE]
theorem expE_one (x : Int × Int) : expE [x] = exp1 x := by simp [expE]
theorem exp_step {n : Nat} {out : List (Int × Int)} (h : okR n out) (p : Int) : expE (stepR out p).reverse = expE out.reverse ++ [p] := by
  have h1 : exp1 (p, 1) = [p] := by
    simp [exp1]
    exact fun h => h.symm
  cases out with
  | nil => simp [stepR, h1, expE]
  | cons x r =>
    obtain ⟨a, b⟩ := x
    have hx := h (a, b) (by simp)
    simp only at hx
    cases hg : goesB (a, b) p with
    | true =>
      rw [stepR_yes hg, List.reverse_cons, List.reverse_cons, expE_append, expE_append, List.append_assoc]
      congr 1
      rw [expE_one, expE_one]
      unfold exp1
      simp only
      rw [show (b + 1).toNat = b.toNat + 1 by omega, List.range_succ, List.map_append]
      congr 1
      simp only [List.map_cons, List.map_nil]
      unfold goesB at hg
      simp only at hg
      by_cases ha : a = 0
      · simp [ha] at hg ⊢; exact hg.symm
      · simp [ha] at hg ⊢; omega
    | false =>
      rw [stepR_no hg, List.reverse_cons, expE_append, expE_one, h1]
theorem exp_ofE : ∀ (n : Nat) (l : List Int), l.length = n → (∀ p, p ∈ l → 0 ≤ p ∧ p ≤ 255) → expE (ofE l) = l
  | 0, l, hl, _ => by
    have : l = [] := List.length_eq_zero_iff.1 hl
    subst this; rfl
  | n + 1, l, hl, h => by
    obtain ⟨m, p, rfl⟩ : ∃ m p, l = m ++ [p] := ⟨l.dropLast, l.getLast (by intro e; subst e; simp at hl), (List.dropLast_concat_getLast _).symm⟩
    have hm : m.length = n := by simpa using hl
    have ih := exp_ofE n m hm (fun q hq => h q (by simp [hq]))
    have ok := ofR_ok n m hm (fun q hq => h q (by simp [hq]))
    unfold ofE at ih ⊢
    rw [ofR_snoc, exp_step ok.1, ih]
theorem at_exp : ∀ (l : List (Int × Int)) (b : Int), 0 ≤ b → (∀ x, x ∈ l → 0 ≤ x.2) → atE l b = (expE l).getD b.toNat 0
  | [], b, _, _ => by simp [atE, expE]
  | x :: r, b, hb, h => by
    have hx := h x (by simp)
    have hl : (exp1 x).length = x.2.toNat := by simp [exp1]
    have e : expE (x :: r) = exp1 x ++ expE r := by simp [expE]
    rw [e, atE]
    by_cases hlt : b < x.2
    · rw [if_pos hlt, List.getD_eq_getElem?_getD, List.getElem?_append_left (by omega)]
      unfold exp1
      rw [List.getElem?_map, List.getElem?_range (by omega)]
      simp only [Option.map_some, Option.getD_some]
      rw [show ((b.toNat : Nat) : Int) = b by omega]
    · rw [if_neg hlt, at_exp r (b - x.2) (by omega) (fun y hy => h y (by simp [hy])), List.getD_eq_getElem?_getD, List.getD_eq_getElem?_getD, List.getElem?_append_right (by omega), hl]
      congr 2
      omega

end Go.Proofs.Ytneknlbmiofmlaa
