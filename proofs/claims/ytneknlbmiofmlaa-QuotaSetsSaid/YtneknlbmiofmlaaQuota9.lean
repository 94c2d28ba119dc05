/- slices.Insert of one row in the middle, where there is room: walked. -/
import Derived.Test.YtneknlbmiofmlaaQuota8
namespace Go.Proofs.Ytneknlbmiofmlaa
open Go.RowKit

theorem pairs_drop (l : List (Int × Int)) (i : Nat) (hi : i ≤ l.length) : pairs (l.drop i) = (pairs l).drop (i * 2) ∧ pairs (l.take i) = (pairs l).take (i * 2) := by
  have e : pairs l = pairs (l.take i) ++ pairs (l.drop i) := by rw [← pairs_append, List.take_append_drop]
  have hl : (pairs (l.take i)).length = i * 2 := by rw [pairs_len, List.length_take]; omega
  constructor
  · rw [e, ← hl, List.drop_left]
  · rw [e, ← hl, List.take_left]

set_option maxRecDepth 100000 in
set_option maxHeartbeats 2000000 in
theorem insert_room (B g cap i n : Nat) (cur : Array Value) (l : List (Int × Int)) (x y : Int) (h : Nat) (w : World) (hBg : B ≤ g) (HN : Hid (n = l.length)) (hl : n ≤ 1000000) (hin : i < n) (hroom : n + 1 ≤ cap) (hcap : cap ≤ maxLen) (HHG : Hid (h ≠ g))
    (HG : Hid (w.heap[g]? = some (.cells cur 63 (0, 0)))) (HS : Hid (cur.size = cap * 2)) (HT : Hid (cur.toList.take (n * 2) = pairs l)) (HH : Hid (w.heap[h]? = some (.cells #[.int .i64 x, .int .i64 y] 63 (0, 0)))) :
    Calls Try.prog 46 #[.slice (some ⟨g, 0, none⟩) n cap, .int .i64 (i : Int), .slice (some ⟨h, 0, none⟩) 1 1] w (RowsRes B (l.take i ++ [(x, y)] ++ l.drop i) w) := by
  unfold maxLen at hcap
  have hov : ∀ o lb cb, (callFunc 48 #[.slice (some ⟨h, 0, none⟩) 1 1, .slice (some ⟨g, o, none⟩) lb cb]).run Try.prog w = .ok (.value (.bool false)) w := fun o lb cb =>
    run_ovl w h g o lb cb x y cur HHG.out HH.out HG.out (by rw [HS.out]; omega)
  have hlt : (i : Int) < (n : Int) := by omega
  have hz1 : ((i : Int) == (n : Int)) = false := by rw [beq_eq_false_iff_ne]; omega
  have hz2 : (i == n) = false := by rw [beq_eq_false_iff_ne]; omega
  have hz3 : decide (i = n) = false := decide_eq_false (by omega)
  have hic : i ≠ cap := by omega
  have hic2 : i + 1 ≠ cap := by omega
  have p1 : IntKind.i64.wrap ((i : Int) + 1) = (i : Int) + 1 := IntWalk.i64_in _ (by omega)
  have p3 : ((i : Int) + 1).toNat = i + 1 := by omega
  have p4 : (0 : Int) ≤ (i : Int) + 1 := by omega
  have p6 : (i : Int) + 1 ≤ (n : Int) + 1 := by omega
  have p7 : ¬ cap = i + 1 := by omega
  have p8 : ¬ cap = i := by omega
  have p9 : (i : Int) ≤ (n : Int) + 1 := by omega
  have p5 : ¬ (cap : Int) < (n : Int) + 1 := by omega
  go_enter Try.func46, Try.ntmps46
  go_wp2_with (simp only [hov])
  go_still_tail 8, (by kernel_rfl)
  go_wp2_with fail
  obtain ⟨mid, Hmid⟩ : ∃ mid, Hid (mid = pairs (l.drop i)) := ⟨_, rfl⟩
  have hml : mid.length = (n - i) * 2 := by rw [Hmid.out, pairs_len, List.length_drop, HN.out]
  have hsrc : ∀ (j : Nat) (v : Value), mid[j]? = some v → w.drew.cell? ((⟨g, i * 2, none⟩ : Addr).add j) = some v := fun j v hj => by
    have hadd : (⟨g, i * 2, none⟩ : Addr).add j = ⟨g, i * 2 + j, none⟩ := by unfold Addr.add; split <;> simp_all
    have hjl := (List.getElem?_eq_some_iff.1 hj).1
    rw [hadd, cell_of_row w.drew g (i * 2 + j) cur 63 (0, 0) HG.out]
    rw [Hmid.out, (pairs_drop l i (by rw [← HN.out]; omega)).1, List.getElem?_drop, ← HT.out, List.getElem?_take, if_pos (by omega)] at hj
    simpa using hj
  rw [run_copy_rowk (P := Try.prog) w.drew 56 56 _ 63 2 g ((i + 1) * 2) (n - i) (cap - (i + 1)) ⟨g, i * 2, none⟩ (n + 1 - i) (cap - i) cur 63 mid rowT rowS HG.out (by rw [hml]; congr 1; show n - i = min (n + 1 - i) (n - i); omega) hsrc (by rw [hml, HS.out]; omega) (by rw [Hmid.out]; exact pairs_one _)]
  obtain ⟨D1, HD1⟩ : ∃ D1, Hid (D1 = (cur.toList.take ((i + 1) * 2) ++ mid ++ cur.toList.drop ((i + 1) * 2 + mid.length)).toArray) := ⟨_, rfl⟩
  rw [← HD1.out]
  have HG1 : Hid ((w.drew.setRow g D1).heap[g]? = some (.cells D1 63 (0, 0))) := setRow_heap w.drew _ _ _ _ _ HG.out
  have HH1 : Hid ((w.drew.setRow g D1).heap[h]? = some (.cells #[.int .i64 x, .int .i64 y] 63 (0, 0))) := heap_setRow_keep (w := w.drew) HH.out _ _ HHG.out
  have HB1 : Below B w (w.drew.setRow g D1) := below_rowSet (Below.refl B w).drew hBg _
  have HZ1 : w.heap.size ≤ (w.drew.setRow g D1).heap.size := by simp [World.setRow]
  have hd1 : D1.size = cap * 2 := by rw [HD1.out]; simp [hml, HS.out]; omega
  generalize w.drew.setRow g D1 = W1 at *
  have hsrc2 : ∀ (j : Nat) (v : Value), (pairs [(x, y)])[j]? = some v → W1.cell? ((⟨h, 0, none⟩ : Addr).add j) = some v := fun j v hj => by
    have hadd : (⟨h, 0, none⟩ : Addr).add j = ⟨h, 0 + j, none⟩ := by unfold Addr.add; split <;> simp_all
    rw [hadd, Nat.zero_add, cell_of_row _ _ _ _ _ _ HH1.out, ← hj, ← Array.getElem?_toList]
    rfl
  have hcp2 := fun ty => run_copy_rowk (P := Try.prog) W1 56 56 ty 63 2 g (i * 2) (n + 1 - i) (cap - i) ⟨h, 0, none⟩ 1 1 D1 63 (pairs [(x, y)]) rowT rowS HG1.out (by show 2 = min 1 (n + 1 - i) * 2; omega) hsrc2 (by show i * 2 + 2 ≤ _; rw [hd1]; omega) (pairs_one _)
  obtain ⟨D2, HD2⟩ : ∃ D2, Hid (D2 = (D1.toList.take (i * 2) ++ pairs [(x, y)] ++ D1.toList.drop (i * 2 + (pairs [(x, y)]).length)).toArray) := ⟨_, rfl⟩
  rw [← HD2.out] at hcp2
  have HML := Lib.hid hml
  have HDS := Lib.hid hd1
  clear hsrc hsrc2 hml hd1 hov
  go_wp2
  go_ret
  refine ⟨_, rfl, ?_, below_rowSet HB1 hBg _, by simpa [World.setRow] using HZ1⟩
  have hlen : (l.take i ++ [(x, y)] ++ l.drop i).length = n + 1 := by simp only [List.length_append, List.length_take, List.length_drop, List.length_cons, List.length_nil]; have := HN.out; omega
  rw [hlen]
  have hD1 : D1.toList.take (i * 2) = pairs (l.take i) := by
    rw [HD1.out, (pairs_drop l i (by rw [← HN.out]; omega)).2, ← HT.out]
    show (cur.toList.take ((i + 1) * 2) ++ mid ++ _).take (i * 2) = _
    rw [List.append_assoc, List.take_append_of_le_length (by rw [List.length_take, Array.length_toList, HS.out]; omega), List.take_take, List.take_take]
    congr 1
    omega
  have hD2 : D1.toList.drop (i * 2 + 2) = mid ++ cur.toList.drop ((i + 1) * 2 + mid.length) := by
    rw [HD1.out]
    show (cur.toList.take ((i + 1) * 2) ++ mid ++ _).drop (i * 2 + 2) = _
    rw [List.append_assoc, List.drop_append_of_le_length (by rw [List.length_take, Array.length_toList, HS.out]; omega), List.drop_of_length_le (by rw [List.length_take, Array.length_toList, HS.out]; omega), List.nil_append]
  refine ⟨by rw [pairs_len, hlen], Or.inr ⟨g, cap, D2, rfl, hBg, setRow_heap _ _ _ _ _ _ HG1.out, by omega, by unfold maxLen; omega, ?_, ?_⟩⟩
  · rw [HD2.out]; simp [HDS.out, pairs_len]; omega
  · rw [HD2.out]
    show (D1.toList.take (i * 2) ++ pairs [(x, y)] ++ D1.toList.drop (i * 2 + 2)).take ((n + 1) * 2) = _
    rw [hD1, hD2, pairs_append, pairs_append, ← Hmid.out, ← List.append_assoc]
    have hl3 : (pairs (l.take i) ++ pairs [(x, y)] ++ mid).length = (n + 1) * 2 := by
      rw [List.length_append, List.length_append, pairs_len, pairs_len, HML.out, List.length_take]
      have := HN.out
      simp only [List.length_cons, List.length_nil]
      omega
    rw [List.take_append_of_le_length (by omega), List.take_of_length_le (by omega)]

end Go.Proofs.Ytneknlbmiofmlaa
