/- Part of the proofs of CheckFresh, FsHoles: the texts Inode2. -/
import Derived.Test.YtpoglnpjadmbpaaGreatDoorMA17
set_option maxHeartbeats 16000000
namespace Go.Proofs.YtpoglnpjadmbpaaGreatDoor
open Go.RowKit
def qmd (P : List Int) : Nat := (P.filter fun p => !(p == 0)).length
theorem ybkd (P : List Int) (p : Int) : qmd (P ++ [p]) = qmd P + (if (p == 0) = true then 0 else 1) := by
 unfold qmd
 rw [List.filter_append, List.length_append]
 cases h : (p == 0) <;> simp [h]
theorem ybhf (P : List Int) : qmd P ≤ P.length := List.length_filter_le _ _
theorem ybvi (k m u g s l up : Int) (v : Value) (P : List Int) (w : World) (h : qan w v P) (hl : P.length ≤ 1000000) :
  Calls Tryz.prog 99 #[.agg #[.int .i64 k, .int .i64 m, .int .i64 u, .int .i64 g, .int .i64 s, .int .i64 l, .int .i64 up, v]] w fun e w' => e = .returned (.int .i64 (qmd P : Int)) ∧ Below w.heap.size w w' := by
 obtain ⟨N, HN⟩ : ∃ N, Hid (N = P.length) := ⟨_, rfl⟩
 obtain ⟨p, cp, hu, HP⟩ : ∃ p cp, v = .slice p N cp ∧ Hid (∀ W : World, Below w.heap.size w W → 0 < N → ∃ g o, p = some ⟨g, o, none⟩ ∧ ∀ j (hj : j < P.length), W.cell? ⟨g, o + j, none⟩ = some (.int .i64 P[j])) := by
  rw [HN.out]
  obtain ⟨_, ⟨h0, a0, c0, rfl⟩ | ⟨g, o, cap, rfl, hc⟩⟩ := h
  ·exact ⟨a0, c0, by rw [h0], fun _ _ h => by omega⟩
  ·refine ⟨_, cap, rfl, fun W hb _ => ⟨g, o, rfl, fun j hj => ?_⟩⟩
   have := hc _ _ (qdn P j hj)
   exact (hb.cell (block_lt_of_cell this)).trans this
 rw [← HN.out] at hl
 subst hu
 clear h
 have HA : Below w.heap.size w (w.alloc (.cells #[.int .i64 k, .int .i64 m, .int .i64 u, .int .i64 g, .int .i64 s, .int .i64 l, .int .i64 up, .slice p N cp] 103)) := (Below.refl _ _).alloc (Nat.le_refl _) _
 go_enter Tryz.func99, Tryz.ntmps99
 go_wp2
 go_loop [3, 9] (fun c i => ∃ k : Nat, k ≤ N ∧ i = .int .i64 k ∧ ∃ x : Nat, x ≤ k ∧ c = .int .i64 x ∧ Hid (x = qmd (P.take k))) (fun _ i => N - (intOf i).toNat)
 case atStart => exact ⟨0, Nat.zero_le _, rfl, 0, Nat.zero_le _, rfl, rfl⟩
 case round =>
  obtain ⟨k, hk, rfl, x, hx, rfl, HX⟩ := hrel
  by_cases hlt : k < N
  ·obtain ⟨g, o, rfl, hc⟩ := HP.out _ HA (by omega)
   have hkl : k < P.length := by rw [← HN.out]; exact hlt
   have c1 := hc k hkl
   obtain ⟨y, hy⟩ : ∃ y, Hid (y = P[k]) := ⟨P[k], rfl⟩
   rw [← hy.out] at c1
   have HT : Hid (qmd (P.take (k + 1)) = x + (if (y == 0) = true then 0 else 1)) := by
    show _ = _
    rw [← List.take_append_getElem hkl, ybkd, ← HX.out, ← hy.out]
   have HC := Lib.hid hc
   clear hc
   have hlt2 : (k : Int) < (N : Int) := by omega
   by_cases hy0 : y = 0
   ·subst hy0
    have HT2 : Hid (x = qmd (P.take (k + 1))) := by rw [HT.out]; simp [Hid]
    go_wp2
    go_round
    case rel => exact ⟨k + 1, by omega, by go_num, x, by omega, rfl, HT2⟩
    case measure => simp [intOf]; omega
   ·have b1 : (y == 0) = false := by simpa using hy0
    have b2 : (y != 0) = true := by simpa using hy0
    have HT2 : Hid (x + 1 = qmd (P.take (k + 1))) := by rw [HT.out, b1]; simp [Hid]
    have HY := Lib.hid hy0
    clear hy0
    go_wp2
    go_round
    case rel => exact ⟨k + 1, by omega, by go_num, x + 1, by omega, by go_num, HT2⟩
    case measure => simp [intOf]; omega
  ·have HF : Hid (x = qmd P) := by
    have := HX.out
    rw [List.take_of_length_le (by rw [← HN.out]; omega)] at this
    exact this
   go_wp2
   go_ret
   rw [HF.out]
   exact ⟨rfl, HA⟩
end Go.Proofs.YtpoglnpjadmbpaaGreatDoor
