/- slices.Insert of one element and slices.Delete of one at rows of type Slot. Written by gen_rows.py. -/
import Derived.Test.YthkcnihmfeilgaaRwPlain
import Derived.Test.YthkcnihmfeilgaaProg
import Derived.StillTailTactics
import Derived.IntWalk
import Derived.Lib.Overlaps
import Derived.Laws.Externs
import Derived.WalkSpells
import Derived.WalkLawsBesides
namespace Go.Proofs.Ythkcnihmfeilgaa
open Go.RowKit

theorem rowTSlot : Try.prog.underlying 83 = some (.slice 82) := by kernel_rfl
theorem rowInfoSlot : (Try.prog.info? 82).map (fun i => (i.zero, i.size, i.bytes)) = some (some (.agg #[.int .i64 0, .slice none 0 0, .bool false]), 3, 40) := by kernel_rfl
theorem rowSSlot : (Try.prog.info? 82).map (·.size) = some 3 := by kernel_rfl
theorem rowSzSlot : ∀ w, (Go.sizeOf 82).run Try.prog w = .ok 3 w := fun w => by kernel_rfl
theorem rowZSlot : ∀ w, (zeroValue 82).run Try.prog w = .ok (.agg #[.int .i64 0, .slice none 0 0, .bool false]) w := fun _ => by kernel_rfl

theorem run_ovlSlot (w : World) (h g o lb cb : Nat) (ys cur : Array Value) (hy : ys.size = 3) (hne : h ≠ g) (hh : w.heap[h]? = some (.cells ys 82 (0, 0)))
    (hg : w.heap[g]? = some (.cells cur 82 (0, 0))) (hc : cur.size ≠ 0) :
    (callFunc 88 #[.slice (some ⟨h, 0, none⟩) 1 1, .slice (some ⟨g, o, none⟩) lb cb]).run Try.prog w = .ok (.value (.bool false)) w := by
  rw [run_callFunc_extern Try.func88 (by kernel_rfl) (by kernel_rfl) (by kernel_rfl) (e := Extern.SlicesOverlaps.overlaps #[83, 83] #[4]) (by kernel_rfl),
    Lib.run_overlaps_apart w 83 4 82 rowTSlot 3 rowSzSlot ⟨h, 0, none⟩ ⟨g, o, none⟩ 1 1 lb cb hne 82 82 3 cur.size (by simp [World.shape?, hh, hy]) (by simp [World.shape?, hg]) hc (by simp [World.frozen?, hh]) (by simp [World.frozen?, hh])]
  rfl

set_option maxRecDepth 100000 in
set_option maxHeartbeats 1000000 in
theorem insert_endSlot (v : Value) (n : Nat) (xs ys : List Value) (h : Nat) (w : World) (hl : n ≤ 1000000) (hown : w.ownsRow 0 82 3 v n xs) (hy : ys.length = 3) (hy1 : ∀ u ∈ ys, u.oneCell' = true)
    (hh : w.heap[h]? = some (.cells ys.toArray 82 (0, 0))) :
    Calls Try.prog 74 #[v, .int .i64 (n : Int), .slice (some ⟨h, 0, none⟩) 1 1] w (RowDid 82 3 v (n + 1) (xs ++ ys) w) := by
  obtain ⟨i0, hi, hz0, hz1, hz2⟩ := info_parts rowInfoSlot
  have HI := Lib.hid hi
  have HZ0 := Lib.hid hz0
  have HZ1 := Lib.hid hz1
  have HZ2 := Lib.hid hz2
  clear hi hz0 hz1 hz2
  have HOWN := Lib.hid hown
  have fin : ∀ g cap w', w'.ownsRow 0 82 3 (.slice (some ⟨g, 0, none⟩) (n + 1) cap) (n + 1) (xs ++ ys) → w.grownBy w' v.ownBlock → (v.ownBlock = some g ∨ g = w.heap.size) → RowDid 82 3 v (n + 1) (xs ++ ys) w (.returned (.slice (some ⟨g, 0, none⟩) (n + 1) cap)) w' := fun g cap w' h1 h2 h3 =>
    ⟨_, rfl, h1, Keeps.grown h2 fun _ h => h, fun b hb => by cases hb; exact h3.imp id fun e => Nat.le_of_eq e.symm⟩
  have FIN := Lib.hid fin
  have hnews : ∀ j u, ys[j]? = some u → w.cell? ((⟨h, 0, none⟩ : Addr).add j) = some u := fun j u hj => by
    rw [add_lit, Nat.zero_add, cell_of_row _ _ _ _ _ _ hh, ← hj]
    simp
  have HNW := Lib.hid hnews
  have HY := Lib.hid hy
  have HY1 := Lib.hid hy1
  clear hnews fin hy hy1 hh
  have hs : (v = .slice none 0 0 ∧ n = 0) ∨ ∃ g cap, v = .slice (some ⟨g, 0, none⟩) n cap ∧ n ≤ cap ∧ cap ≤ maxLen := by
    obtain ⟨_, ⟨a, b⟩ | ⟨g, cap, cur, e, _, _, e2, e3, _⟩⟩ := HOWN.out
    · exact Or.inl ⟨a, b⟩
    · exact Or.inr ⟨g, cap, e, e2, e3⟩
  clear hown
  rcases hs with ⟨rfl, hn0⟩ | ⟨g, cap, rfl, hnc, hcm⟩
  · subst hn0
    go_enter Try.func74, Try.ntmps74
    go_wp2_with (at_builtin; refine wpList_append_lies _ rfl _ _ 83 rfl 0 82 i0 (.agg #[.int .i64 0, .slice none 0 0, .bool false]) 3 40 rowTSlot HI.out HZ0.out HZ1.out HZ2.out rfl (by decide) _ _ _ rfl HOWN.out ⟨h, 0, none⟩ 1 1 ys rfl HY.out HNW.out HY1.out (by omega) (by unfold maxLen; omega) (by omega) (Nat.zero_le _) w.heap.size rfl ?_; intro g' cap' w1 hown1 hgrow hat _)
    go_ret
    exact FIN.out _ _ _ hown1 hgrow hat
  · unfold maxLen at hcm
    by_cases hcn : n = cap
    all_goals
      first | subst hcn | skip
      go_enter Try.func74, Try.ntmps74
      go_wp2_with (at_builtin; refine wpList_append_lies _ rfl _ _ 83 rfl 0 82 i0 (.agg #[.int .i64 0, .slice none 0 0, .bool false]) 3 40 rowTSlot HI.out HZ0.out HZ1.out HZ2.out rfl (by decide) _ _ _ rfl HOWN.out ⟨h, 0, none⟩ 1 1 ys rfl HY.out HNW.out HY1.out (by omega) (by unfold maxLen; omega) (by omega) (Nat.zero_le _) w.heap.size rfl ?_; intro g' cap' w1 hown1 hgrow hat _)
      go_ret
      exact FIN.out _ _ _ hown1 hgrow hat

set_option maxRecDepth 100000 in
set_option maxHeartbeats 2000000 in
theorem insert_roomSlot (g cap i n : Nat) (cur : Array Value) (xs ys : List Value) (h : Nat) (w : World) (HX : Hid (xs.length = n * 3)) (HX1 : Hid (∀ u ∈ xs, u.oneCell' = true)) (HY : Hid (ys.length = 3)) (HY1 : Hid (∀ u ∈ ys, u.oneCell' = true)) (hl : n ≤ 1000000) (hin : i < n) (hroom : n + 1 ≤ cap) (hcap : cap ≤ maxLen) (HHG : Hid (h ≠ g))
    (HG : Hid (w.heap[g]? = some (.cells cur 82 (0, 0)))) (HS : Hid (cur.size = cap * 3)) (HT : Hid (cur.toList.take (n * 3) = xs)) (HH : Hid (w.heap[h]? = some (.cells ys.toArray 82 (0, 0)))) :
    Calls Try.prog 74 #[.slice (some ⟨g, 0, none⟩) n cap, .int .i64 (i : Int), .slice (some ⟨h, 0, none⟩) 1 1] w (RowDid 82 3 (.slice (some ⟨g, 0, none⟩) n cap) (n + 1) (xs.take (i * 3) ++ ys ++ xs.drop (i * 3)) w) := by
  unfold maxLen at hcap
  have hov : ∀ o lb cb, (callFunc 88 #[.slice (some ⟨h, 0, none⟩) 1 1, .slice (some ⟨g, o, none⟩) lb cb]).run Try.prog w = .ok (.value (.bool false)) w := fun o lb cb =>
    run_ovlSlot w h g o lb cb _ cur (by simpa using HY.out) HHG.out HH.out HG.out (by rw [HS.out]; omega)
  have hlt : (i : Int) < (n : Int) := by omega
  have hz1 : ((i : Int) == (n : Int)) = false := by rw [beq_eq_false_iff_ne]; omega
  have hz2 : (i == n) = false := by rw [beq_eq_false_iff_ne]; omega
  have hz3 : decide (i = n) = false := decide_eq_false (by omega)
  have hic : i ≠ cap := by omega
  have hic2 : i + 1 ≠ cap := by omega
  have p1 : IntKind.i64.wrap ((i : Int) + 1) = (i : Int) + 1 := IntWalk.i64_in _ (by omega)
  have p3 : ((i : Int) + 1).toNat = i + 1 := by omega
  have p4 : (0 : Int) ≤ (i : Int) + 1 := by omega
  have p6 : (i : Int) + 1 ≤ (n : Int) + 1 := by omega
  have p7 : ¬ cap = i + 1 := by omega
  have p8 : ¬ cap = i := by omega
  have p9 : (i : Int) ≤ (n : Int) + 1 := by omega
  have p5 : ¬ (cap : Int) < (n : Int) + 1 := by omega
  go_enter Try.func74, Try.ntmps74
  go_wp2_with (simp only [hov])
  go_still_tail 8, (by kernel_rfl)
  go_wp2_with fail
  obtain ⟨mid, Hmid⟩ : ∃ mid, Hid (mid = xs.drop (i * 3)) := ⟨_, rfl⟩
  have hml : mid.length = (n - i) * 3 := by rw [Hmid.out, List.length_drop, HX.out]; omega
  have hsrc : ∀ (j : Nat) (v : Value), mid[j]? = some v → w.drew.cell? ((⟨g, i * 3, none⟩ : Addr).add j) = some v := fun j v hj => by
    have hjl := (List.getElem?_eq_some_iff.1 hj).1
    rw [add_lit, cell_of_row w.drew g (i * 3 + j) cur 82 (0, 0) HG.out]
    rw [Hmid.out, List.getElem?_drop, ← HT.out, List.getElem?_take, if_pos (by omega)] at hj
    simpa using hj
  have hm1 : ∀ u ∈ mid, u.oneCell' = true := fun u hu => HX1.out u (by rw [Hmid.out] at hu; exact List.mem_of_mem_drop hu)
  rw [run_copy_rowk (P := Try.prog) w.drew 83 83 _ 82 3 g ((i + 1) * 3) (n - i) (cap - (i + 1)) ⟨g, i * 3, none⟩ (n + 1 - i) (cap - i) cur 82 mid rowTSlot rowSSlot HG.out (by rw [hml]; congr 1; show n - i = min (n + 1 - i) (n - i); omega) hsrc (by rw [hml, HS.out]; omega) hm1]
  obtain ⟨D1, HD1⟩ : ∃ D1, Hid (D1 = (cur.toList.take ((i + 1) * 3) ++ mid ++ cur.toList.drop ((i + 1) * 3 + mid.length)).toArray) := ⟨_, rfl⟩
  rw [← HD1.out]
  have HG1 : Hid ((w.drew.setRow g D1).heap[g]? = some (.cells D1 82 (0, 0))) := setRow_heap w.drew _ _ _ _ _ HG.out
  have HH1 : Hid ((w.drew.setRow g D1).heap[h]? = some (.cells ys.toArray 82 (0, 0))) := heap_setRow_keep (w := w.drew) HH.out _ _ HHG.out
  have HB1 : Keeps (fun i => some g = some i) w (w.drew.setRow g D1) := (Keeps.refl _ w).drew.step (Keeps.setRow (F := fun i => some g = some i) rfl _)
  have HZ1 : w.heap.size ≤ (w.drew.setRow g D1).heap.size := by simp [World.setRow]
  have hd1 : D1.size = cap * 3 := by rw [HD1.out]; simp [hml, HS.out]; omega
  generalize w.drew.setRow g D1 = W1 at *
  have hsrc2 : ∀ (j : Nat) (v : Value), ys[j]? = some v → W1.cell? ((⟨h, 0, none⟩ : Addr).add j) = some v := fun j v hj => by
    rw [add_lit, Nat.zero_add, cell_of_row _ _ _ _ _ _ HH1.out, ← hj]
    simp
  have hcp2 := fun ty => run_copy_rowk (P := Try.prog) W1 83 83 ty 82 3 g (i * 3) (n + 1 - i) (cap - i) ⟨h, 0, none⟩ 1 1 D1 82 ys rowTSlot rowSSlot HG1.out (by rw [HY.out]; show 3 = min 1 (n + 1 - i) * 3; omega) hsrc2 (by rw [HY.out, hd1]; omega) HY1.out
  obtain ⟨D2, HD2⟩ : ∃ D2, Hid (D2 = (D1.toList.take (i * 3) ++ ys ++ D1.toList.drop (i * 3 + ys.length)).toArray) := ⟨_, rfl⟩
  rw [← HD2.out] at hcp2
  have HML := Lib.hid hml
  have HDS := Lib.hid hd1
  clear hsrc hsrc2 hml hd1 hov
  go_wp2
  go_ret
  refine ⟨_, rfl, ?_, HB1.step (Keeps.setRow (F := fun i => some g = some i) rfl _), fun b hb => Or.inl hb⟩
  have hD1 : D1.toList.take (i * 3) = xs.take (i * 3) := by
    rw [HD1.out, ← HT.out]
    show (cur.toList.take ((i + 1) * 3) ++ mid ++ _).take (i * 3) = _
    rw [List.append_assoc, List.take_append_of_le_length (by rw [List.length_take, Array.length_toList, HS.out]; omega), List.take_take, List.take_take]
    congr 1
    omega
  have hD2 : D1.toList.drop (i * 3 + 3) = mid ++ cur.toList.drop ((i + 1) * 3 + mid.length) := by
    rw [HD1.out]
    show (cur.toList.take ((i + 1) * 3) ++ mid ++ _).drop (i * 3 + 3) = _
    rw [List.append_assoc, List.drop_append_of_le_length (by rw [List.length_take, Array.length_toList, HS.out]; omega), List.drop_of_length_le (by rw [List.length_take, Array.length_toList, HS.out]; omega), List.nil_append]
  have hl3 : (xs.take (i * 3) ++ ys ++ mid).length = (n + 1) * 3 := by
    rw [List.length_append, List.length_append, HY.out, HML.out, List.length_take, HX.out]
    omega
  rw [← Hmid.out]
  refine ⟨hl3, Or.inr ⟨g, cap, D2, rfl, Nat.zero_le _, setRow_heap _ _ _ _ _ _ HG1.out, by omega, by unfold maxLen; omega, ?_, ?_⟩⟩
  · rw [HD2.out]; simp [HDS.out, HY.out]; omega
  · rw [HD2.out, HY.out]
    show (D1.toList.take (i * 3) ++ ys ++ D1.toList.drop (i * 3 + 3)).take ((n + 1) * 3) = _
    rw [hD1, hD2, ← List.append_assoc]
    rw [List.take_append_of_le_length (by omega), List.take_of_length_le (by omega)]

set_option maxRecDepth 100000 in
set_option maxHeartbeats 2000000 in
theorem insert_fullSlot (g i n : Nat) (cur : Array Value) (xs ys : List Value) (h : Nat) (w : World) (HX : Hid (xs.length = n * 3)) (HX1 : Hid (∀ u ∈ xs, u.oneCell' = true)) (HY : Hid (ys.length = 3)) (HY1 : Hid (∀ u ∈ ys, u.oneCell' = true)) (hl : n ≤ 1000000) (hin : i < n) (hgw : g < w.heap.size) (hhw : h < w.heap.size)
    (HG : Hid (w.heap[g]? = some (.cells cur 82 (0, 0)))) (HS : Hid (cur.size = n * 3)) (HT : Hid (cur.toList.take (n * 3) = xs)) (HH : Hid (w.heap[h]? = some (.cells ys.toArray 82 (0, 0)))) :
    Calls Try.prog 74 #[.slice (some ⟨g, 0, none⟩) n n, .int .i64 (i : Int), .slice (some ⟨h, 0, none⟩) 1 1] w (RowDid 82 3 (.slice (some ⟨g, 0, none⟩) n n) (n + 1) (xs.take (i * 3) ++ ys ++ xs.drop (i * 3)) w) := by
  obtain ⟨i0, hi, hz0, hz1', hz2'⟩ := info_parts rowInfoSlot
  obtain ⟨G, zs, hG1, hG2, hzl, happ⟩ := run_grow_row (P := Try.prog) w 83 82 3 rowTSlot (by kernel_rfl) i0 _ 3 40 hi hz0 hz1' hz2' rfl (by omega) (by omega) g i n cur xs HG.out HS.out HT.out hin hl
  clear hi hz0 hz1' hz2'
  have hG2' := hG2
  unfold maxLen at hG2
  have hlt : (i : Int) < (n : Int) := by omega
  have hz1 : ((i : Int) == (n : Int)) = false := by rw [beq_eq_false_iff_ne]; omega
  have hz2 : (i == n) = false := by rw [beq_eq_false_iff_ne]; omega
  have hz3 : decide (i = n) = false := decide_eq_false (by omega)
  have hic : i ≠ G := by omega
  have hic2 : i + 1 ≠ G := by omega
  have p1 : IntKind.i64.wrap ((i : Int) + 1) = (i : Int) + 1 := IntWalk.i64_in _ (by omega)
  have p3 : ((i : Int) + 1).toNat = i + 1 := by omega
  have p4 : (0 : Int) ≤ (i : Int) + 1 := by omega
  have p6 : (i : Int) + 1 ≤ (n : Int) + 1 := by omega
  have p6' : (i : Int) + 1 ≤ (G : Int) := by omega
  have p7 : ¬ G = i + 1 := by omega
  have p8 : ¬ G = i := by omega
  have p9 : (i : Int) ≤ (n : Int) + 1 := by omega
  have p5 : (n : Int) < (n : Int) + 1 := by omega
  have p10 : ¬ n = i := by omega
  have p11 : i ≠ n := by omega
  have p12 : (i : Int) ≤ (n : Int) := by omega
  have p13 : (i : Int) + 1 ≤ (n : Int) := by omega
  obtain ⟨D0, HD0⟩ : ∃ D0, Hid (D0 = (xs.take (i * 3) ++ zs).toArray) := ⟨_, rfl⟩
  rw [← HD0.out] at happ
  have hd0 : D0.size = G * 3 := by rw [HD0.out]; simp [hzl, HX.out]; omega
  have HD0S := Lib.hid hd0
  have HZL := Lib.hid hzl
  obtain ⟨k, HK⟩ : ∃ k, Hid (k = w.heap.size) := ⟨_, rfl⟩
  rw [← HK.out] at happ
  have HG0 : Hid ((w.drew.alloc (.cells D0 82)).heap[k]? = some (.cells D0 82 (0, 0))) := by
    show _ = _
    rw [HK.out]; exact heap_alloc_new w.drew _
  have HGG : Hid ((w.drew.alloc (.cells D0 82)).heap[g]? = some (.cells cur 82 (0, 0))) := by
    show _ = _
    rw [heap_alloc_old w.drew _ hgw]; exact HG.out
  have HHH : Hid ((w.drew.alloc (.cells D0 82)).heap[h]? = some (.cells ys.toArray 82 (0, 0))) := by
    show _ = _
    rw [heap_alloc_old w.drew _ hhw]; exact HH.out
  have HB0 : Keeps (fun i => i = k) w (w.drew.alloc (.cells D0 82)) := (Keeps.refl _ w).drew.trans (Keeps.alloc (F := fun _ => False) _) (fun _ h => h.elim)
  have hz0 : w.heap.size + 1 = (w.drew.alloc (.cells D0 82)).heap.size := by simp
  generalize w.drew.alloc (.cells D0 82) = W0 at *
  have HAP := Lib.hid happ
  clear happ hd0 hzl
  have HZ0 := Lib.hid hz0
  clear hz0
  have hHk : k ≠ h := by rw [HK.out]; omega
  have hGk : k ≠ g := by rw [HK.out]; omega
  have hsrc2 : ∀ (j : Nat) (v : Value), ys[j]? = some v → W0.cell? ((⟨h, 0, none⟩ : Addr).add j) = some v := fun j v hj => by
    rw [add_lit, Nat.zero_add, cell_of_row _ _ _ _ _ _ HHH.out, ← hj]
    simp
  have hcp2 := fun ty => run_copy_rowk (P := Try.prog) W0 83 83 ty 82 3 k (i * 3) (n + 1 - i) (G - i) ⟨h, 0, none⟩ 1 1 D0 82 ys rowTSlot rowSSlot HG0.out (by rw [HY.out]; show 3 = min 1 (n + 1 - i) * 3; omega) hsrc2 (by rw [HY.out, HD0S.out]; omega) HY1.out
  obtain ⟨D1, HD1⟩ : ∃ D1, Hid (D1 = (D0.toList.take (i * 3) ++ ys ++ D0.toList.drop (i * 3 + ys.length)).toArray) := ⟨_, rfl⟩
  rw [← HD1.out] at hcp2
  have HG1 : Hid ((W0.setRow k D1).heap[k]? = some (.cells D1 82 (0, 0))) := setRow_heap W0 _ _ _ _ _ HG0.out
  have HGG1 : Hid ((W0.setRow k D1).heap[g]? = some (.cells cur 82 (0, 0))) := heap_setRow_keep (w := W0) HGG.out _ _ hGk.symm
  have HB1 : Keeps (fun i => i = k) w (W0.setRow k D1) := HB0.step (Keeps.setRow (F := fun i => i = k) rfl _)
  generalize W0.setRow k D1 = W1 at *
  clear hsrc2
  go_enter Try.func74, Try.ntmps74
  go_wp2_with (at_builtin; refine Lib.wpList_append_run _ rfl _ _ _ _ rfl _ _ rfl rfl _ _ (HAP.out _) ?_)
  clear hcp2
  go_still_tail 8, (by kernel_rfl)
  go_wp2_with fail
  obtain ⟨mid, Hmid⟩ : ∃ mid, Hid (mid = xs.drop (i * 3)) := ⟨_, rfl⟩
  have hml : mid.length = (n - i) * 3 := by rw [Hmid.out, List.length_drop, HX.out]; omega
  have hsrc : ∀ (j : Nat) (v : Value), mid[j]? = some v → W1.drew.cell? ((⟨g, i * 3, none⟩ : Addr).add j) = some v := fun j v hj => by
    have hjl := (List.getElem?_eq_some_iff.1 hj).1
    rw [add_lit, cell_of_row W1.drew g (i * 3 + j) cur 82 (0, 0) HGG1.out]
    rw [Hmid.out, List.getElem?_drop, ← HT.out, List.getElem?_take, if_pos (by omega)] at hj
    simpa using hj
  have hm1 : ∀ u ∈ mid, u.oneCell' = true := fun u hu => HX1.out u (by rw [Hmid.out] at hu; exact List.mem_of_mem_drop hu)
  have hd1 : D1.size = G * 3 := by rw [HD1.out]; simp [HY.out, HD0S.out]; omega
  rw [run_copy_rowk (P := Try.prog) W1.drew 83 83 _ 82 3 k ((i + 1) * 3) (n - i) (G - (i + 1)) ⟨g, i * 3, none⟩ (n - i) (n - i) D1 82 mid rowTSlot rowSSlot HG1.out (by rw [hml]; congr 1; show n - i = min (n - i) (n - i); omega) hsrc (by rw [hml, hd1]; omega) hm1]
  obtain ⟨D2, HD2⟩ : ∃ D2, Hid (D2 = (D1.toList.take ((i + 1) * 3) ++ mid ++ D1.toList.drop ((i + 1) * 3 + mid.length)).toArray) := ⟨_, rfl⟩
  rw [← HD2.out]
  have HML := Lib.hid hml
  have HDS := Lib.hid hd1
  clear hsrc hml hd1
  go_wp2
  go_ret
  have HB2 : Keeps (fun i => i = k) w (W1.drew.setRow k D2) := HB1.drew.step (Keeps.setRow (F := fun i => i = k) rfl _)
  refine ⟨_, rfl, ?_, (HB2.mono (F1 := fun i => (Value.slice (some ⟨g, 0, none⟩) n n).ownBlock = some i) (fun j hj hjk => by rw [hjk, HK.out] at hj; omega)), fun b hb => Or.inr (by cases hb; rw [HK.out]; exact Nat.le_refl _)⟩
  have hti : (xs.take (i * 3)).length = i * 3 := by rw [List.length_take, HX.out]; omega
  have hD1 : D1.toList.take ((i + 1) * 3) = xs.take (i * 3) ++ ys := by
    rw [HD1.out, HD0.out]
    show ((xs.take (i * 3) ++ zs).take (i * 3) ++ ys ++ _).take ((i + 1) * 3) = _
    have e1 : (xs.take (i * 3) ++ zs).take (i * 3) = xs.take (i * 3) := by
      have := List.take_left (l₁ := xs.take (i * 3)) (l₂ := zs)
      rwa [hti] at this
    have e2 : (xs.take (i * 3) ++ ys).length = (i + 1) * 3 := by rw [List.length_append, hti, HY.out]; omega
    rw [e1, ← e2, List.take_left]
  have hl3 : (xs.take (i * 3) ++ ys ++ mid).length = (n + 1) * 3 := by
    rw [List.length_append, List.length_append, HY.out, HML.out, hti]
    omega
  rw [← Hmid.out]
  refine ⟨hl3, Or.inr ⟨k, G, D2, rfl, Nat.zero_le _, setRow_heap _ _ _ _ _ _ HG1.out, by omega, hG2', ?_, ?_⟩⟩
  · rw [HD2.out]; simp [HDS.out, HML.out]; omega
  · rw [HD2.out]
    show (D1.toList.take ((i + 1) * 3) ++ mid ++ D1.toList.drop ((i + 1) * 3 + mid.length)).take ((n + 1) * 3) = _
    rw [hD1, List.take_append_of_le_length (by omega), List.take_of_length_le (by omega)]

theorem insert_anySlot (i n : Nat) (v : Value) (xs ys : List Value) (h : Nat) (w : World) (hl : n ≤ 1000000) (hi : i ≤ n) (hown : w.ownsRow 0 82 3 v n xs) (hx1 : ∀ u ∈ xs, u.oneCell' = true) (hy : ys.length = 3) (hy1 : ∀ u ∈ ys, u.oneCell' = true)
    (hh : w.heap[h]? = some (.cells ys.toArray 82 (0, 0))) (hne : ∀ g, v.ownBlock = some g → h ≠ g) :
    Calls Try.prog 74 #[v, .int .i64 (i : Int), .slice (some ⟨h, 0, none⟩) 1 1] w (RowDid 82 3 v (n + 1) (xs.take (i * 3) ++ ys ++ xs.drop (i * 3)) w) := by
  have hxl := hown.1
  by_cases he : i = n
  · subst he
    rw [List.take_of_length_le (by omega), List.drop_of_length_le (by omega), List.append_nil]
    exact insert_endSlot v i xs ys h w hl hown hy hy1 hh
  · have hlt : i < n := by omega
    obtain ⟨hlen, ⟨_, h0⟩ | ⟨g, cap, cur, rfl, hg, hc, hn, hm, hs, ht⟩⟩ := hown
    · omega
    · by_cases hroom : n + 1 ≤ cap
      · exact insert_roomSlot g cap i n cur xs ys h w hxl hx1 hy hy1 hl hlt hroom hm (hne g rfl) hc hs ht hh
      · have hcap : cap = n := by omega
        subst hcap
        exact insert_fullSlot g i cap cur xs ys h w hxl hx1 hy hy1 hl hlt (heap_lt hc) (heap_lt hh) hc hs ht hh

set_option maxRecDepth 100000 in
set_option maxHeartbeats 2000000 in
theorem delete_anySlot (i n : Nat) (v : Value) (xs : List Value) (w : World) (hl : n ≤ 1000000) (hi : i < n) (hown : w.ownsRow 0 82 3 v n xs) (hx1 : ∀ u ∈ xs, u.oneCell' = true) :
    Calls Try.prog 73 #[v, .int .i64 (i : Int), .int .i64 ((i : Int) + 1)] w (RowDid 82 3 v (n - 1) (xs.take (i * 3) ++ xs.drop ((i + 1) * 3)) w) := by
  obtain ⟨hlen, ⟨_, h0⟩ | ⟨g, cap, cur, rfl, hg, hc, hn, hm, hs, ht⟩⟩ := hown
  · omega
  obtain ⟨i0, hi0, hz0, hz1, hz2⟩ := info_parts rowInfoSlot
  unfold maxLen at hm
  have HX := Lib.hid hlen
  have HX1 := Lib.hid hx1
  have HG := Lib.hid hc
  have HS := Lib.hid hs
  have HT := Lib.hid ht
  -- what moves
  obtain ⟨mid, Hmid⟩ : ∃ mid, Hid (mid = xs.drop ((i + 1) * 3)) := ⟨_, rfl⟩
  have hml : mid.length = (n - (i + 1)) * 3 := by rw [Hmid.out, List.length_drop, hlen]; omega
  have hm1 : ∀ u ∈ mid, u.oneCell' = true := fun u hu => hx1 u (by rw [Hmid.out] at hu; exact List.mem_of_mem_drop hu)
  obtain ⟨A, hA, hsrc⟩ : ∃ A : Addr, (if cap = i + 1 then (⟨g, 0, none⟩ : Addr) else ⟨g, (i + 1) * 3, none⟩) = A ∧ (∀ t u, mid[t]? = some u → w.drew.cell? (A.add t) = some u) := by
    refine ⟨_, rfl, fun t u hu => ?_⟩
    have hjl := (List.getElem?_eq_some_iff.1 hu).1
    have hc1 : ¬ cap = i + 1 := by omega
    rw [if_neg hc1, add_lit, cell_of_row w.drew g ((i + 1) * 3 + t) cur 82 (0, 0) hc]
    rw [Hmid.out, List.getElem?_drop, ← ht, List.getElem?_take, if_pos (by omega)] at hu
    simpa using hu
  have happ := fun c ty => run_append_room (P := Try.prog) w.drew 83 ty 82 i0 rowTSlot hi0 g i cap cur hc A (n - (i + 1)) c mid (by rw [hml, hz1]) hsrc hm1 (by omega) (by rw [hml, hz1, hs]; omega)
  rw [hz1] at happ
  obtain ⟨D1, HD1⟩ : ∃ D1, Hid (D1 = (cur.toList.take (i * 3) ++ mid ++ cur.toList.drop (i * 3 + mid.length)).toArray) := ⟨_, rfl⟩
  rw [← HD1.out] at happ
  have hd1 : D1.size = cap * 3 := by rw [HD1.out]; simp [hml, hs]; omega
  have HG1 : Hid ((w.drew.setRow g D1).heap[g]? = some (.cells D1 82 (0, 0))) := setRow_heap w.drew _ _ _ _ _ hc
  have HB1 : Keeps (fun i => some g = some i) w (w.drew.setRow g D1) := (Keeps.refl _ w).drew.step (Keeps.setRow (F := fun i => some g = some i) rfl _)
  generalize w.drew.setRow g D1 = W1 at *
  obtain ⟨zs, hzl, hclr⟩ := run_clear_row (P := Try.prog) W1 83 82 rowTSlot _ 3 rowZSlot rfl (by omega) (by intro v hv; simp [Value.cells] at hv; rcases hv with rfl | rfl | rfl <;> rfl) g ((n - 1) * 3) 1 (cap - (n - 1)) D1 82 (by omega) HG1.out (by rw [hd1]; omega)
  obtain ⟨D2, HD2⟩ : ∃ D2, Hid (D2 = (D1.toList.take ((n - 1) * 3) ++ zs ++ D1.toList.drop ((n - 1) * 3 + zs.length)).toArray) := ⟨_, rfl⟩
  rw [← HD2.out] at hclr
  have HML := Lib.hid hml
  have HDS := Lib.hid hd1
  have HZL := Lib.hid hzl
  have HAP := Lib.hid happ
  have HA : Hid ((if cap = i + 1 then (⟨g, 0, none⟩ : Addr) else ⟨g, (i + 1) * 3, none⟩) = A) := hA
  have hz1' : ((i : Int) == (i : Int) + 1) = false := by rw [beq_eq_false_iff_ne]; omega
  have p1 : (i : Int) ≤ (n : Int) := by omega
  have p2 : (i : Int) + 1 ≤ (n : Int) := by omega
  have p3 : ((i : Int) + 1).toNat = i + 1 := by omega
  have p4 : (0 : Int) ≤ (i : Int) + 1 := by omega
  have p5 : (i : Int) ≤ (i : Int) + 1 := by omega
  have p6 : (i : Int) + 1 ≤ (cap : Int) := by omega
  have p7 : (i : Int) ≤ (cap : Int) := by omega
  have p8 : (n : Int) ≤ (cap : Int) := by omega
  have e1 : i + (n - (i + 1)) = n - 1 := by omega
  rw [e1] at HAP
  have q1 : ((n - 1 : Nat) : Int) ≤ (n : Int) := by omega
  have q2 : n - (n - 1) = 1 := by omega
  have q3 : ¬ cap = n - 1 := by omega
  have q4 : ¬ cap = i := by omega
  clear hlen hx1 hc hs ht hml hm1 hsrc happ hd1 hzl hi0 hz0 hz1 hz2 hA
  by_cases hci : cap = i + 1
  · have HA2 := HA.out
    rw [if_pos hci] at HA2
    subst HA2
    subst hci
    obtain rfl : n = i + 1 := by omega
    simp only [Nat.add_sub_cancel, Nat.add_sub_cancel_left, Nat.sub_self] at hclr HAP HD2 q2 HML
    clear q1 q2 q3 q4 e1
    rw [Nat.add_sub_cancel]
    go_enter Try.func73, Try.ntmps73
    go_wp2_with fail
    go_still_tail 6, (by kernel_rfl)
    go_wp2_with (at_builtin; refine Lib.wpList_append_run w.drew rfl (.tmp 22) (.tmp 25) 83 83 rfl (.slice (some ⟨g, 0, none⟩) i (i + 1)) (.slice (some ⟨g, 0, none⟩) 0 0) (by simp [Act.eval]) (by simp [Act.eval]) _ _ (HAP.out _ _) ?_)
    go_ret
    refine ⟨_, rfl, ?_, HB1.step (Keeps.setRow (F := fun i => some g = some i) rfl _), fun b hb => Or.inl hb⟩
    have hl3 : (xs.take (i * 3) ++ mid).length = i * 3 := by
      rw [List.length_append, HML.out, List.length_take, HX.out]
      omega
    rw [← Hmid.out]
    refine ⟨hl3, Or.inr ⟨g, i + 1, D2, rfl, Nat.zero_le _, setRow_heap _ _ _ _ _ _ HG1.out, by omega, by unfold maxLen; omega, ?_, ?_⟩⟩
    · rw [HD2.out]; simp [HDS.out, HZL.out]; omega
    · rw [HD2.out]
      show (D1.toList.take (i * 3) ++ zs ++ D1.toList.drop (i * 3 + zs.length)).take (i * 3) = _
      rw [List.append_assoc, List.take_append_of_le_length (by rw [List.length_take, Array.length_toList, HDS.out]; omega), List.take_take, Nat.min_self, HD1.out]
      show (cur.toList.take (i * 3) ++ mid ++ cur.toList.drop (i * 3 + mid.length)).take (i * 3) = _
      have e2 : cur.toList.take (i * 3) = xs.take (i * 3) := by rw [← HT.out, List.take_take]; congr 1; omega
      rw [e2, List.take_append_of_le_length (by omega), List.take_of_length_le (by omega)]
  · have HA2 := HA.out
    rw [if_neg hci] at HA2
    subst HA2
    go_enter Try.func73, Try.ntmps73
    go_wp2_with fail
    go_still_tail 6, (by kernel_rfl)
    go_wp2_with (at_builtin; refine Lib.wpList_append_run w.drew rfl (.tmp 22) (.tmp 25) 83 83 rfl (.slice (some ⟨g, 0, none⟩) i cap) (.slice (some ⟨g, (i + 1) * 3, none⟩) (n - (i + 1)) (cap - (i + 1))) (by simp [Act.eval]) (by simp [Act.eval]) _ _ (HAP.out _ _) ?_)
    go_ret
    refine ⟨_, rfl, ?_, HB1.step (Keeps.setRow (F := fun i => some g = some i) rfl _), fun b hb => Or.inl hb⟩
    have hl3 : (xs.take (i * 3) ++ mid).length = (n - 1) * 3 := by
      rw [List.length_append, HML.out, List.length_take, HX.out]
      omega
    rw [← Hmid.out]
    refine ⟨hl3, Or.inr ⟨g, cap, D2, rfl, Nat.zero_le _, setRow_heap _ _ _ _ _ _ HG1.out, by omega, by unfold maxLen; omega, ?_, ?_⟩⟩
    · rw [HD2.out]; simp [HDS.out, HZL.out]; omega
    · rw [HD2.out]
      show (D1.toList.take ((n - 1) * 3) ++ zs ++ D1.toList.drop ((n - 1) * 3 + zs.length)).take ((n - 1) * 3) = _
      rw [List.append_assoc, List.take_append_of_le_length (by rw [List.length_take, Array.length_toList, HDS.out]; omega), List.take_take, Nat.min_self, HD1.out]
      show (cur.toList.take (i * 3) ++ mid ++ cur.toList.drop (i * 3 + mid.length)).take ((n - 1) * 3) = _
      have e2 : cur.toList.take (i * 3) = xs.take (i * 3) := by rw [← HT.out, List.take_take]; congr 1; omega
      rw [e2, List.take_append_of_le_length (by omega), List.take_of_length_le (by omega)]

end Go.Proofs.Ythkcnihmfeilgaa
