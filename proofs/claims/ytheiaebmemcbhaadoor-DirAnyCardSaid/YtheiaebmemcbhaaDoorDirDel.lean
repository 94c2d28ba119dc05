/- slices.Delete of one entry, walked. -/
import Derived.Test.YtheiaebmemcbhaaDoorDirFind
import Derived.StillTailTactics
namespace Go.Proofs.YtheiaebmemcbhaaDoor
open Go.RowKit

theorem entZ : ∀ w, (zeroValue 33).run Tryd.prog w = .ok (.agg #[.string { data := #[] }, .int .i64 0]) w := fun _ => by kernel_rfl
section
variable {P : Program}
/-- clear of entries. -/
theorem run_clear_ents (w : World) (t e : TypeId) (ht : P.underlying t = some (.slice e)) (hv : ∀ w, (zeroValue e).run P w = .ok (.agg #[.string { data := #[] }, .int .i64 0]) w)
    (g o n c : Nat) (cur : Array Value) (ct : TypeId) (hn : 0 < n) (hg : w.heap[g]? = some (.cells cur ct (0, 0))) (hfit : o + n * 2 ≤ cur.size) :
    ∃ zs : List Value, zs.length = n * 2 ∧ ∀ ty, (Builtin.clear_ #[t] ty #[.slice (some ⟨g, o, none⟩) n c]).run P w = .ok (.tuple #[]) (w.setRow g (cur.toList.take o ++ zs ++ cur.toList.drop (o + zs.length)).toArray) := by
  have hlen : ((Builtin.zeroCells #[.string { data := #[] }, .int .i64 0] n).toList).length = n * 2 := by rw [Array.length_toList, size_zeroCells]; rfl
  have hone : ∀ v ∈ (Builtin.zeroCells #[.string { data := #[] }, .int .i64 0] n).toList, v.oneCell' = true := by
    intro v hv
    simp only [Builtin.zeroCells, Array.toList_map, List.mem_map] at hv
    obtain ⟨i, _, rfl⟩ := hv
    have h2 : i % 2 < 2 := Nat.mod_lt _ (by omega)
    show (#[Value.string { data := #[] }, Value.int .i64 0][i % 2]!).oneCell' = true
    rcases (by omega : i % 2 = 0 ∨ i % 2 = 1) with h | h <;> rw [h] <;> rfl
  refine ⟨_, hlen, fun ty => ?_⟩
  have hst := run_storeCells_at P g o ct (Builtin.zeroCells #[.string { data := #[] }, .int .i64 0] n).toList 0 cur w hg (by rw [hlen]; omega) hone
  simp only [Nat.add_zero] at hst
  obtain ⟨m, rfl⟩ : ∃ m, n = m + 1 := ⟨n - 1, by omega⟩
  simp [Builtin.clear_, run_underlying ht, hv, Value.cells, hst]
end
theorem below_rowSet {B : Nat} {a w : World} (h : Below B a w) {g : Nat} (hp : B ≤ g) (cs : Array Value) : Below B a (w.setRow g cs) :=
  ⟨h.os, h.tape, h.output, by have := h.size; simp only [World.setRow, Array.size_modify]; exact this, fun k hk => by rw [setRow_other _ _ _ _ (by omega)]; exact h.block k hk⟩

set_option maxRecDepth 100000 in
set_option maxHeartbeats 4000000 in
theorem delete_any (base : Nat) (v : Value) (l : List En) (w : World) (hown : w.ownsRow base 33 2 v l.length (ents l)) (i : Nat) (hi : i < l.length) (hl : l.length ≤ 1000000) (j : Nat) (hj : i + 1 = j) (hbw : base ≤ w.heap.size) :
    Calls Tryd.prog 38 #[v, .int .i64 (i : Int), .int .i64 (j : Int)] w fun e w' => ∃ v', e = .returned v' ∧ w'.ownsRow base 33 2 v' (l.eraseIdx i).length (ents (l.eraseIdx i)) ∧ Below base w w' := by
  have _ := hbw
  obtain ⟨n, HN⟩ : ∃ n, Hid (n = l.length) := ⟨_, rfl⟩
  rw [← HN.out] at hi hl hown
  obtain ⟨m, Hm⟩ : ∃ m, Hid (m + 1 = n) := ⟨n - 1, by show _ = _; omega⟩
  obtain ⟨hxl, ⟨_, h0⟩ | ⟨g, cap, cur, rfl, hg, hh, hc, hmx, hs, ht⟩⟩ := hown
  · omega
  obtain ⟨i0, hi0, hz0, hz1, hz2⟩ := info_parts entInfo
  have hel : (l.eraseIdx i).length = m := by rw [List.length_eraseIdx, if_pos (by rw [← HN.out]; exact hi), ← HN.out]; have := Hm.out; omega
  have hee : ents (l.eraseIdx i) = ents (l.take i) ++ ents (l.drop j) := by rw [List.eraseIdx_eq_take_drop_succ, ents_append, hj]
  have htk : (ents (l.take i)).length = i * 2 := by rw [ents_len, List.length_take, ← HN.out]; congr 1; omega
  have hdk : (ents (l.drop j)).length = (n - j) * 2 := by rw [ents_len, List.length_drop, ← HN.out]
  have hnews : ∀ (q : Nat) (u : Value), (ents (l.drop j))[q]? = some u → w.drew.cell? ⟨g, j * 2 + q, none⟩ = some u := fun q u hq => by
    have hq1 := (List.getElem?_eq_some_iff.1 hq).1
    rw [hdk] at hq1
    show w.cell? ⟨g, j * 2 + q, none⟩ = some u
    rw [cell_of_row _ _ _ _ _ _ hh]
    have e : ents l = ents (l.take j) ++ ents (l.drop j) := by rw [← ents_append, List.take_append_drop]
    have e2 : (ents (l.take j)).length = j * 2 := by rw [ents_len, List.length_take, ← HN.out]; congr 1; omega
    have h1 : (ents l)[j * 2 + q]? = some u := by rw [e, List.getElem?_append_right (by omega), e2, show j * 2 + q - j * 2 = q by omega]; exact hq
    rw [← ht, List.getElem?_take, if_pos (by omega)] at h1
    simpa using h1
  have hadd : ∀ (b o q : Nat), (⟨b, o, none⟩ : Addr).add q = ⟨b, o + q, none⟩ := fun b o q => by unfold Addr.add; split <;> simp_all
  have hml : i + (n - j) = m := by have := Hm.out; omega
  obtain ⟨R1, HR1⟩ : ∃ R, Hid ((cur.toList.take (i * 2) ++ ents (l.drop j) ++ cur.toList.drop (i * 2 + (n - j) * 2)).toArray = R) := ⟨_, rfl⟩
  have hload : (loadCellsFrom ⟨g, j * 2, none⟩ 0 ((n - j) * 2) #[]).run Tryd.prog w.drew = .ok (ents (l.drop j)).toArray w.drew := by
    have := run_loadCells_list (P := Tryd.prog) (w := w.drew) ⟨g, j * 2, none⟩ (ents (l.drop j)) (fun q u hq => by rw [hadd]; exact hnews q u hq)
    rw [hdk] at this
    exact this
  have hstore : (storeCells ⟨g, i * 2, none⟩ (ents (l.drop j))).run Tryd.prog w.drew = .ok () (w.drew.setRow g R1) := by
    have := run_storeCells_at (P := Tryd.prog) g (i * 2) 33 (ents (l.drop j)) 0 cur w.drew hh (by rw [hdk, hs]; omega) (ents_one _)
    rw [hdk, Nat.add_zero, HR1.out] at this
    exact this
  have hR1s : R1.size = cap * 2 := by
    rw [← HR1.out]
    simp only [List.size_toArray, List.length_append, List.length_take, List.length_drop, hdk, Array.length_toList, hs]
    omega
  have hR1t : R1.toList.take (m * 2) = ents (l.eraseIdx i) := by
    rw [← HR1.out, hee]
    have e1 : (cur.toList.take (i * 2)) = ents (l.take i) := by
      have e : ents l = ents (l.take i) ++ ents (l.drop i) := by rw [← ents_append, List.take_append_drop]
      have h1 := congrArg (List.take (i * 2)) ht
      rw [List.take_take, e, List.take_append_of_le_length (by omega), List.take_of_length_le (l := ents (l.take i)) (by omega)] at h1
      rw [← h1]
      congr 1
      omega
    rw [e1]
    have h2 : (ents (l.take i) ++ ents (l.drop j)).length = m * 2 := by rw [List.length_append, htk, hdk]; omega
    rw [List.take_append_of_le_length (by omega), List.take_of_length_le (by omega)]
  have hh2 : (w.drew.setRow g R1).heap[g]? = some (.cells R1 33 (0, 0)) := setRow_heap _ _ _ _ _ _ hh
  obtain ⟨w2, HW2⟩ : ∃ W, Hid (w.drew.setRow g R1 = W) := ⟨_, rfl⟩
  rw [HW2.out] at hstore hh2
  obtain ⟨zs, hzl, hrun⟩ := run_clear_ents (P := Tryd.prog) w2 22 33 entsT entZ g (m * 2) (n - m) (cap - m) R1 33 (by have := Hm.out; omega) hh2 (by rw [hR1s]; have := Hm.out; omega)
  obtain ⟨w3, HW3⟩ : ∃ W, Hid (w2.setRow g (R1.toList.take (m * 2) ++ zs ++ R1.toList.drop (m * 2 + zs.length)).toArray = W) := ⟨_, rfl⟩
  rw [HW3.out] at hrun
  have HRES : Hid (w3.ownsRow base 33 2 (.slice (some ⟨g, 0, none⟩) m cap) (l.eraseIdx i).length (ents (l.eraseIdx i)) ∧ Below base w w3) := by
    constructor
    · rw [hel]
      refine ⟨by rw [ents_len, hel], Or.inr ⟨g, cap, _, rfl, hg, by rw [← HW3.out]; exact setRow_heap _ _ _ _ _ _ hh2, by have := Hm.out; omega, hmx, ?_, ?_⟩⟩
      · simp only [List.size_toArray, List.length_append, List.length_take, List.length_drop, hzl, Array.length_toList, hR1s]
        have := Hm.out
        omega
      · rw [hR1t]
        have h2 : (ents (l.eraseIdx i)).length = m * 2 := by rw [ents_len, hel]
        rw [List.append_assoc, List.take_append_of_le_length (by omega), List.take_of_length_le (by omega)]
    · rw [← HW3.out, ← HW2.out]
      exact below_rowSet (below_rowSet (Below.refl _ _).drew hg _) hg _
  have k1 : ¬ (i : Int) = (j : Int) := by omega
  have k2 : (i : Int) ≤ (j : Int) := by omega
  have k3 : (j : Int) ≤ (n : Int) := by omega
  have k4 : (n : Int) ≤ (cap : Int) := by omega
  have k5 : (i : Int) ≤ (cap : Int) := by omega
  have k6 : (m : Int) ≤ (n : Int) := by have := Hm.out; omega
  have k7 : ¬ cap = m := by have := Hm.out; omega
  have k8 : ¬ n = i := by omega
  have k9 : ¬ cap = i := by omega
  have HHH := Lib.hid hh
  have HEE := Lib.hid hee
  have HT := Lib.hid ht
  have HSZ := Lib.hid hs
  have HTK := Lib.hid htk
  have HEL := Lib.hid hel
  clear hnews hadd hel hee htk hdk ht hs hR1s hR1t hh2 hzl
  by_cases hcj : cap = j
  · have hnj : n = j := by omega
    have him : i = m := by have := Hm.out; omega
    obtain ⟨zs2, hzl2, hrun2⟩ := run_clear_ents (P := Tryd.prog) w.drew 22 33 entsT entZ g (i * 2) (n - i) (j - i) cur 33 (by omega) HHH.out (by rw [HSZ.out]; omega)
    obtain ⟨w4, HW4⟩ : ∃ W, Hid (w.drew.setRow g (cur.toList.take (i * 2) ++ zs2 ++ cur.toList.drop (i * 2 + zs2.length)).toArray = W) := ⟨_, rfl⟩
    rw [HW4.out] at hrun2
    have HRES2 : Hid (w4.ownsRow base 33 2 (.slice (some ⟨g, 0, none⟩) i j) (l.eraseIdx i).length (ents (l.eraseIdx i)) ∧ Below base w w4) := by
      have hdrop : l.drop j = [] := List.drop_eq_nil_of_le (by rw [← HN.out]; omega)
      have e0 : ents (l.eraseIdx i) = ents (l.take i) := by rw [HEE.out, hdrop]; simp [ents]
      have e1 : cur.toList.take (i * 2) = ents (l.take i) := by
        have e : ents l = ents (l.take i) ++ ents (l.drop i) := by rw [← ents_append, List.take_append_drop]
        have h1 := congrArg (List.take (i * 2)) HT.out
        rw [List.take_take, e, List.take_append_of_le_length (by rw [HTK.out]; exact Nat.le_refl _), List.take_of_length_le (l := ents (l.take i)) (by rw [HTK.out]; exact Nat.le_refl _)] at h1
        rw [← h1]
        congr 1
        omega
      constructor
      · rw [HEL.out]
        refine ⟨by rw [ents_len, HEL.out], Or.inr ⟨g, j, _, by rw [him], hg, by rw [← HW4.out]; exact setRow_heap _ _ _ _ _ _ HHH.out, by have := Hm.out; omega, by rw [← hcj]; exact hmx, ?_, ?_⟩⟩
        · simp only [List.size_toArray, List.length_append, List.length_take, List.length_drop, hzl2, Array.length_toList, HSZ.out]
          omega
        · rw [e0, ← him]
          show ((cur.toList.take (i * 2) ++ zs2 ++ cur.toList.drop (i * 2 + zs2.length))).take (i * 2) = _
          rw [e1, List.append_assoc, List.take_append_of_le_length (by rw [HTK.out]; exact Nat.le_refl _), List.take_of_length_le (by rw [HTK.out]; exact Nat.le_refl _)]
      · rw [← HW4.out]
        exact below_rowSet (Below.refl _ _).drew hg _
    have hnj0 : n - j = 0 := by omega
    clear hload hstore hrun hzl2 hnj him
    go_enter Tryd.func38, Tryd.ntmps38
    go_wp2
    go_still_tail 6, (by kernel_rfl)
    go_wp2_with fail
    go_ret
    exact ⟨_, rfl, HRES2.out⟩
  · go_enter Tryd.func38, Tryd.ntmps38
    go_wp2
    go_still_tail 6, (by kernel_rfl)
    go_wp2
    go_ret
    exact ⟨_, rfl, HRES.out⟩
end Go.Proofs.YtheiaebmemcbhaaDoor
