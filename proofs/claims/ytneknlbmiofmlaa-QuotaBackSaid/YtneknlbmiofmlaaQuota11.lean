/- slices.Insert of one row in the middle, where there is no room. -/
import Derived.Test.YtneknlbmiofmlaaQuota10
namespace Go.Proofs.Ytneknlbmiofmlaa
open Go.RowKit

set_option maxRecDepth 100000 in
set_option maxHeartbeats 2000000 in
theorem insert_full (B g i n : Nat) (cur : Array Value) (l : List (Int × Int)) (x y : Int) (h : Nat) (w : World) (hBw : B ≤ w.heap.size) (HN : Hid (n = l.length)) (hl : n ≤ 1000000) (hin : i < n) (hgw : g < w.heap.size) (hhw : h < w.heap.size)
    (HG : Hid (w.heap[g]? = some (.cells cur 63 (0, 0)))) (HS : Hid (cur.size = n * 2)) (HT : Hid (cur.toList.take (n * 2) = pairs l)) (HH : Hid (w.heap[h]? = some (.cells #[.int .i64 x, .int .i64 y] 63 (0, 0)))) :
    Calls Try.prog 46 #[.slice (some ⟨g, 0, none⟩) n n, .int .i64 (i : Int), .slice (some ⟨h, 0, none⟩) 1 1] w (RowsRes B (l.take i ++ [(x, y)] ++ l.drop i) w) := by
  obtain ⟨G, zs, hG1, hG2, hzl, happ⟩ := run_grow_rows w g i n cur l HG.out HS.out HT.out HN.out hin hl
  have hG2' := hG2
  unfold maxLen at hG2
  have hlt : (i : Int) < (n : Int) := by omega
  have hz1 : ((i : Int) == (n : Int)) = false := by rw [beq_eq_false_iff_ne]; omega
  have hz2 : (i == n) = false := by rw [beq_eq_false_iff_ne]; omega
  have hz3 : decide (i = n) = false := decide_eq_false (by omega)
  have hic : i ≠ G := by omega
  have hic2 : i + 1 ≠ G := by omega
  have p1 : IntKind.i64.wrap ((i : Int) + 1) = (i : Int) + 1 := IntWalk.i64_in _ (by omega)
  have p3 : ((i : Int) + 1).toNat = i + 1 := by omega
  have p4 : (0 : Int) ≤ (i : Int) + 1 := by omega
  have p6 : (i : Int) + 1 ≤ (n : Int) + 1 := by omega
  have p6' : (i : Int) + 1 ≤ (G : Int) := by omega
  have p7 : ¬ G = i + 1 := by omega
  have p8 : ¬ G = i := by omega
  have p9 : (i : Int) ≤ (n : Int) + 1 := by omega
  have p5 : (n : Int) < (n : Int) + 1 := by omega
  have p10 : ¬ n = i := by omega
  have p11 : i ≠ n := by omega
  have p12 : (i : Int) ≤ (n : Int) := by omega
  have p13 : (i : Int) + 1 ≤ (n : Int) := by omega
  obtain ⟨D0, HD0⟩ : ∃ D0, Hid (D0 = (pairs (l.take i) ++ zs).toArray) := ⟨_, rfl⟩
  rw [← HD0.out] at happ
  have hd0 : D0.size = G * 2 := by rw [HD0.out]; simp [pairs_len, hzl]; have := HN.out; omega
  have HD0S := Lib.hid hd0
  have HZL := Lib.hid hzl
  obtain ⟨k, HK⟩ : ∃ k, Hid (k = w.heap.size) := ⟨_, rfl⟩
  rw [← HK.out] at happ
  have HG0 : Hid ((w.drew.alloc (.cells D0 63)).heap[k]? = some (.cells D0 63 (0, 0))) := by
    show _ = _
    rw [HK.out]; exact heap_alloc_new w.drew _
  have HGG : Hid ((w.drew.alloc (.cells D0 63)).heap[g]? = some (.cells cur 63 (0, 0))) := by
    show _ = _
    rw [heap_alloc_old w.drew _ hgw]; exact HG.out
  have HHH : Hid ((w.drew.alloc (.cells D0 63)).heap[h]? = some (.cells #[.int .i64 x, .int .i64 y] 63 (0, 0))) := by
    show _ = _
    rw [heap_alloc_old w.drew _ hhw]; exact HH.out
  have HB0 : Below B w (w.drew.alloc (.cells D0 63)) := (Below.refl B w).drew.alloc hBw _
  have hz0 : w.heap.size + 1 = (w.drew.alloc (.cells D0 63)).heap.size := by simp
  generalize w.drew.alloc (.cells D0 63) = W0 at *
  have HAP := Lib.hid happ
  clear happ hd0 hzl
  have hBk : B ≤ k := by rw [HK.out]; omega
  have HZ0 := Lib.hid hz0
  clear hz0
  have hHk : k ≠ h := by rw [HK.out]; omega
  have hGk : k ≠ g := by rw [HK.out]; omega
  have hsrc2 : ∀ (j : Nat) (v : Value), (pairs [(x, y)])[j]? = some v → W0.cell? ((⟨h, 0, none⟩ : Addr).add j) = some v := fun j v hj => by
    have hadd : (⟨h, 0, none⟩ : Addr).add j = ⟨h, 0 + j, none⟩ := by unfold Addr.add; split <;> simp_all
    rw [hadd, Nat.zero_add, cell_of_row _ _ _ _ _ _ HHH.out, ← hj, ← Array.getElem?_toList]
    rfl
  have hcp2 := fun ty => run_copy_rowk (P := Try.prog) W0 56 56 ty 63 2 k (i * 2) (n + 1 - i) (G - i) ⟨h, 0, none⟩ 1 1 D0 63 (pairs [(x, y)]) rowT rowS HG0.out (by show 2 = min 1 (n + 1 - i) * 2; omega) hsrc2 (by show i * 2 + 2 ≤ _; rw [HD0S.out]; omega) (pairs_one _)
  obtain ⟨D1, HD1⟩ : ∃ D1, Hid (D1 = (D0.toList.take (i * 2) ++ pairs [(x, y)] ++ D0.toList.drop (i * 2 + (pairs [(x, y)]).length)).toArray) := ⟨_, rfl⟩
  rw [← HD1.out] at hcp2
  have HG1 : Hid ((W0.setRow k D1).heap[k]? = some (.cells D1 63 (0, 0))) := setRow_heap W0 _ _ _ _ _ HG0.out
  have HGG1 : Hid ((W0.setRow k D1).heap[g]? = some (.cells cur 63 (0, 0))) := heap_setRow_keep (w := W0) HGG.out _ _ hGk.symm
  have HB1 : Below B w (W0.setRow k D1) := below_rowSet HB0 hBk _
  have HZ1 : w.heap.size ≤ (W0.setRow k D1).heap.size := by have := HZ0.out; simp [World.setRow]; omega
  generalize W0.setRow k D1 = W1 at *
  clear hsrc2
  go_enter Try.func46, Try.ntmps46
  go_wp2_with (at_builtin; refine Lib.wpList_append_run _ rfl _ _ _ _ rfl _ _ rfl rfl _ _ (HAP.out _) ?_)
  clear hcp2
  go_still_tail 8, (by kernel_rfl)
  go_wp2_with fail
  obtain ⟨mid, Hmid⟩ : ∃ mid, Hid (mid = pairs (l.drop i)) := ⟨_, rfl⟩
  have hml : mid.length = (n - i) * 2 := by rw [Hmid.out, pairs_len, List.length_drop, HN.out]
  have hsrc : ∀ (j : Nat) (v : Value), mid[j]? = some v → W1.drew.cell? ((⟨g, i * 2, none⟩ : Addr).add j) = some v := fun j v hj => by
    have hadd : (⟨g, i * 2, none⟩ : Addr).add j = ⟨g, i * 2 + j, none⟩ := by unfold Addr.add; split <;> simp_all
    have hjl := (List.getElem?_eq_some_iff.1 hj).1
    rw [hadd, cell_of_row W1.drew g (i * 2 + j) cur 63 (0, 0) HGG1.out]
    rw [Hmid.out, (pairs_drop l i (by rw [← HN.out]; omega)).1, List.getElem?_drop, ← HT.out, List.getElem?_take, if_pos (by omega)] at hj
    simpa using hj
  have hd1 : D1.size = G * 2 := by rw [HD1.out]; simp [pairs_len, HD0S.out]; omega
  rw [run_copy_rowk (P := Try.prog) W1.drew 56 56 _ 63 2 k ((i + 1) * 2) (n - i) (G - (i + 1)) ⟨g, i * 2, none⟩ (n - i) (n - i) D1 63 mid rowT rowS HG1.out (by rw [hml]; congr 1; show n - i = min (n - i) (n - i); omega) hsrc (by rw [hml, hd1]; omega) (by rw [Hmid.out]; exact pairs_one _)]
  obtain ⟨D2, HD2⟩ : ∃ D2, Hid (D2 = (D1.toList.take ((i + 1) * 2) ++ mid ++ D1.toList.drop ((i + 1) * 2 + mid.length)).toArray) := ⟨_, rfl⟩
  rw [← HD2.out]
  have HML := Lib.hid hml
  have HDS := Lib.hid hd1
  clear hsrc hml hd1
  go_wp2
  go_ret
  refine ⟨_, rfl, ?_, below_rowSet HB1.drew hBk _, by simpa [World.setRow] using HZ1⟩
  have hlen : (l.take i ++ [(x, y)] ++ l.drop i).length = n + 1 := by simp only [List.length_append, List.length_take, List.length_drop, List.length_cons, List.length_nil]; have := HN.out; omega
  rw [hlen]
  have hti : (pairs (l.take i)).length = i * 2 := by rw [pairs_len, List.length_take]; have := HN.out; omega
  have hD1 : D1.toList.take ((i + 1) * 2) = pairs (l.take i ++ [(x, y)]) := by
    rw [HD1.out, HD0.out, pairs_append]
    show ((pairs (l.take i) ++ zs).take (i * 2) ++ pairs [(x, y)] ++ _).take ((i + 1) * 2) = _
    have e1 : (pairs (l.take i) ++ zs).take (i * 2) = pairs (l.take i) := by rw [← hti, List.take_left]
    have e2 : (pairs (l.take i) ++ pairs [(x, y)]).length = (i + 1) * 2 := by rw [List.length_append, hti, pairs_len]; show i * 2 + 1 * 2 = _; omega
    rw [e1, ← e2, List.take_left]
  refine ⟨by rw [pairs_len, hlen], Or.inr ⟨k, G, D2, rfl, hBk, setRow_heap _ _ _ _ _ _ HG1.out, by omega, hG2', ?_, ?_⟩⟩
  · rw [HD2.out]; simp [HDS.out, HML.out]; omega
  · rw [HD2.out]
    show (D1.toList.take ((i + 1) * 2) ++ mid ++ D1.toList.drop ((i + 1) * 2 + mid.length)).take ((n + 1) * 2) = _
    rw [hD1, Hmid.out, ← pairs_append]
    rw [List.take_append_of_le_length (by rw [pairs_len, hlen]; omega), List.take_of_length_le (by rw [pairs_len, hlen]; omega)]

end Go.Proofs.Ytneknlbmiofmlaa
