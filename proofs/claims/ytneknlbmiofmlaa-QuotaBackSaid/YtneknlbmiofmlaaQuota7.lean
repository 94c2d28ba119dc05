/- slices.Insert of one row at the end. -/
import Derived.Test.YtneknlbmiofmlaaQuota6
namespace Go.Proofs.Ytneknlbmiofmlaa
open Go.RowKit

set_option maxHeartbeats 1000000 in
theorem insert_end (B : Nat) (v : Value) (l : List (Int × Int)) (x y : Int) (h : Nat) (w : World) (hBw : B ≤ w.heap.size) (hl : l.length ≤ 1000000) (hown : w.ownsRow B 63 2 v l.length (pairs l))
    (hh : w.heap[h]? = some (.cells #[.int .i64 x, .int .i64 y] 63 (0, 0))) :
    Calls Try.prog 46 #[v, .int .i64 (l.length : Int), .slice (some ⟨h, 0, none⟩) 1 1] w (RowsRes B (l ++ [(x, y)]) w) := by
  obtain ⟨i0, hi, hz0, hz1, hz2⟩ := info_parts rowInfo
  have HI := Lib.hid hi
  have HZ0 := Lib.hid hz0
  have HZ1 := Lib.hid hz1
  have HZ2 := Lib.hid hz2
  clear hi hz0 hz1 hz2
  have HOWN := Lib.hid hown
  have HH := Lib.hid hh
  clear hh
  obtain ⟨n, HN⟩ : ∃ n, Hid (n = l.length) := ⟨_, rfl⟩
  rw [← HN.out] at HOWN hl ⊢
  have hbl : ∀ b, v.ownBlock = some b → B ≤ b ∧ b < w.heap.size := fun b hb => by
    have := hown.lt b hb
    exact ⟨this.1, this.2⟩
  have HBL := Lib.hid hbl
  clear hbl
  have fin : ∀ v' w', w'.ownsRow B 63 2 v' (n + 1) (pairs l ++ pairs [(x, y)]) → w.grownBy w' v.ownBlock → RowsRes B (l ++ [(x, y)]) w (.returned v') w' := fun v' w' h1 h2 => by
    refine ⟨v', rfl, ?_, Below.grown (Below.refl _ _) h2 hBw fun r hr => (HBL.out r hr).1, h2.size⟩
    rw [List.length_append, ← HN.out, pairs_append]
    exact h1
  have FIN := Lib.hid fin
  clear fin
  have hnews : ∀ j u, (pairs [(x, y)])[j]? = some u → w.cell? ((⟨h, 0, none⟩ : Addr).add j) = some u := fun j u hj => by
    have hadd : (⟨h, 0, none⟩ : Addr).add j = ⟨h, 0 + j, none⟩ := by unfold Addr.add; split <;> simp_all
    rw [hadd, Nat.zero_add, cell_of_row _ _ _ _ _ _ HH.out, ← hj, ← Array.getElem?_toList]
    rfl
  have HNW := Lib.hid hnews
  clear hnews
  have hs : (v = .slice none 0 0 ∧ n = 0) ∨ ∃ g cap, v = .slice (some ⟨g, 0, none⟩) n cap ∧ n ≤ cap ∧ cap ≤ maxLen := by
    obtain ⟨_, ⟨a, b⟩ | ⟨g, cap, cur, e, _, _, e2, e3, _⟩⟩ := HOWN.out
    · exact Or.inl ⟨a, b⟩
    · exact Or.inr ⟨g, cap, e, e2, e3⟩
  clear hown
  rcases hs with ⟨rfl, hn0⟩ | ⟨g, cap, rfl, hnc, hcm⟩
  · subst hn0
    go_enter Try.func46, Try.ntmps46
    go_wp2_with (at_builtin; refine wpList_append_own _ rfl _ _ 56 rfl B 63 i0 (.agg #[.int .i64 0, .int .i64 0]) 2 16 rowT HI.out HZ0.out HZ1.out HZ2.out rfl (by decide) _ _ _ rfl HOWN.out ⟨h, 0, none⟩ 1 1 (pairs [(x, y)]) rfl rfl HNW.out (pairs_one _) (by unfold maxLen; omega) (by omega) hBw ?_; intro v' w1 hown1 hgrow _)
    go_ret
    exact FIN.out _ _ hown1 hgrow
  · unfold maxLen at hcm
    by_cases hcn : n = cap
    all_goals
      have HCN := Lib.hid hcn
      go_enter Try.func46, Try.ntmps46
      go_wp2_with (at_builtin; refine wpList_append_own _ rfl _ _ 56 rfl B 63 i0 (.agg #[.int .i64 0, .int .i64 0]) 2 16 rowT HI.out HZ0.out HZ1.out HZ2.out rfl (by decide) _ _ _ rfl HOWN.out ⟨h, 0, none⟩ 1 1 (pairs [(x, y)]) rfl rfl HNW.out (pairs_one _) (by unfold maxLen; omega) (by omega) hBw ?_; intro v' w1 hown1 hgrow _)
      go_ret
      exact FIN.out _ _ hown1 hgrow

end Go.Proofs.Ytneknlbmiofmlaa
